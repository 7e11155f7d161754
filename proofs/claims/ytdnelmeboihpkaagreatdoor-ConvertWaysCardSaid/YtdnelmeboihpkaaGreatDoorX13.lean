/-
  Values as data: their cells; size, depth and order.
  slices.Compact at lists of IDs.
  value.SameType, trace.sameDef, trace.sameNode, trace.bodied.
  Numbers of the reference's evaluator: clip, truth.
  The reference's environments: With, Find.
  value.Size and trace.deep.
  value.small: true at small values.
  trace.set, Join and Asks; the law's lists of IDs.
  The maker of programs: its state, its small functions.
  eval: environments, and the depth of a value.
  The law's lists of IDs; the law TraceJoins.
  trace.read: the first definition and the first node of each ID.
  The maker's functions without recursion.
  trace.differ: the IDs that only one of two maps has, or whose things differ; in some order.
  Types of expressions; which definitions the maker may name.
  value.Def, and ValidType of package value and of the reference.
  trace.Changed.
-/
import Derived.Test.YtdnelmeboihpkaaGreatDoorX12
import Derived.Test.YtdnelmeboihpkaaGreatDoorX10
set_option linter.unusedVariables false
set_option maxHeartbeats 8000000
set_option maxRecDepth 100000
set_option linter.unusedSimpArgs false
open Go.Proofs.Tryz (prog)
namespace Go.Proofs.YtdnelmeboihpkaaGreatDoor
open Go.Abs
inductive Val where
 | mk (k n:Int) (kids:List Val)
def Val.k:Val→Int | .mk k _ _=>k
def Val.n:Val→Int | .mk _ n _=>n
def Val.kids:Val→List Val | .mk _ _ l=>l
mutual
def zG4:Val→A
 | .mk _ _ l=>.sl l.length (zK l)
def zK:List Val→List A
 | []=>[]
 | v::l=>.lit (.int .i64 v.k)::.lit (.int .i64 v.n)::zG4 v::zK l
end
def zF (v:Val):List A:=[.lit (.int .i64 v.k),.lit (.int .i64 v.n),.sl v.kids.length (zK v.kids)]
theorem zOb (v:Val):zG4 v=.sl v.kids.length (zK v.kids):=by cases v; simp only[zG4,Val.kids]
@[simp] theorem zJO:zK []=[]:=by simp only[zK]
@[simp] theorem zD9 (v:Val)(l:List Val):zK (v::l)=.lit (.int .i64 v.k)::.lit (.int .i64 v.n)::.sl v.kids.length (zK v.kids)::zK l:=by simp only[zK,zOb]
@[simp] theorem zPY:∀l:List Val,(zK l).length=l.length*3
 | []=>by simp
 | v::l=>by simp[zPY l]; omega
mutual
theorem zOc:∀v:Val,nrm0 (zG4 v)=zG4 v∧∀rf g,vw rf g (zG4 v)=zG4 v
 | .mk k n l=>by have h:=zBn l;simp only[zG4];exact⟨by simp[h.1],fun rf g=>by simp[h.2]⟩
theorem zBn:∀l:List Val,qF (zK l)
 | []=>by simp only[zK]; exact qF.nil
 | v::l=>by have h:=zOc v;have h':=zBn l;simp only[zK];exact⟨by simp[h.1,h'.1],fun rf g=>by simp[h.2,h'.2]⟩
end
@[simp] theorem zZx (l:List Val):qV (zK l)=zK l:=(zBn l).1
@[simp] theorem qEk {rf g}(l:List Val):vwL rf g (zK l)=zK l:=(zBn l).2 _ _
theorem jL:∀{l:List Val} {i:Nat} (h:i<l.length),(zK l).drop (i*3)=.lit (.int .i64 l[i].k)::.lit (.int .i64 l[i].n)::.sl l[i].kids.length (zK l[i].kids)::zK (l.drop (i+1))
 | v::l,0,h=>by simp
 | v::l,i+1,h=>by
  have e:(i+1)*3=i*3+3:=by omega
  rw[e,zD9]
  simpa using jL (l:=l) (i:=i) (by simpa using h)
mutual
def qC:Val→Nat
 | .mk _ _ l=>1+jH l
def jH:List Val→Nat
 | []=>0
 | v::l=>qC v+jH l
end
theorem zEw:∀{l:List Val} {v:Val},v∈l→qC v≤jH l
 | x::l,v,h=>by
  simp only[jH];rcases jA7.1 h with rfl | h
  ·omega
  ·have:=zEw h; omega
theorem zAH {v x:Val}(h:x∈v.kids):qC x<qC v:=by
 cases v with
 | mk k n l=>have:=zEw (l:=l) h; simp only[qC]; omega
def zFZ:Val→Int
 | .mk _ _ l=>l.attach.foldl (fun s x=>w64 (s+zFZ x.1)) 1
termination_by v=>qC v
decreasing_by
 have:=zEw x.2;simp only[qC]; omega
def zN4 (l:List Val):Int:=l.foldl (fun s x=>w64 (s+zFZ x)) 1
theorem zP0 (v:Val):zFZ v=zN4 v.kids:=by
 cases v with
 | mk k n l =>
  rw[zFZ];simp only[Val.kids,zN4];rw[List.foldl_attach (f:=fun s x=>w64 (s+zFZ x))]
theorem zM6 {l:List Val}{i:Nat}(h:i<l.length):zN4 (l.take (i+1))=IntKind.i64.wrap (zN4 (l.take i)+zFZ l[i]):=by rw[zN4,jAa h,jCg];rfl
def zTm (a b:Int):Int:=if a<b then b else a
def zDo:Val→Int
 | .mk _ _ l=>w64 (l.attach.foldl (fun s x=>zTm s (zDo x.1)) 0+1)
termination_by v=>qC v
decreasing_by
 have:=zEw x.2;simp only[qC]; omega
def zNk (l:List Val):Int:=l.foldl (fun s x=>zTm s (zDo x)) 0
theorem zLC (v:Val):zDo v=w64 (zNk v.kids+1):=by
 cases v with
 | mk k n l =>
  rw[zDo];simp only[Val.kids,zNk];rw[List.foldl_attach (f:=fun s x=>zTm s (zDo x))]
theorem zMm {l:List Val}{i:Nat}(h:i<l.length):zNk (l.take (i+1))=zTm (zNk (l.take i)) (zDo l[i]):=by rw[zNk,jAa h,jCg];rfl
@[simp] theorem qNc:zA prog 41=true:=by kernel_rfl
@[simp] theorem qMT:zA prog 42=true:=by kernel_rfl
def qFa:K:=G [kO 2 0,kO 3 1,kMi 4 0] (Z (Z (K.dops [(0,0,D 6 2 0),(1,0,L 7 6 1),(2,0,D 8 3 0),(3,0,L 9 8 1),(4,0,kC 10 80 [(kt 7),(kt 9)]),(5,0,D 11 2 1),(6,0,L 12 11 1),(7,0,D 13 3 1),(8,0,L 14 13 1),(9,0,kC 15 80 [(kt 12),(kt 14)]),(10,0,D 16 2 2),(11,0,L 17 16 1),(12,0,kN 18 17),(13,0,D 19 3 2),(14,0,L 20 19 1),(15,0,kN 21 20),(16,0,kC 22 80 [(kt 18),(kt 21)]),(17,0,kd 23 3 1 3 [ki,ki,ki] [(0,1,(kt 10)),(1,1,(kt 15)),(2,1,(kt 22))]),(18,0,kC 24 79 [(kt 23)]),(19,0,M 5 24)]) (G [M 25 5,kQi 26 25 0 true] (Y 26 (G [M 27 5,M 4 27] kr) ks))) (G [D 28 2 2,L 29 28 1,D 30 3 2,L 31 30 1,kC 32 103 [(kt 29),(kt 31),(.func 60)],M 4 32] kr))
theorem qMg:zR prog Tryz.f60.ntmps (Tryz.f60.body.getD .skip)=some qFa.erase:=by kernel_rfl
@[simp] theorem qNx:zA prog 60=true:=by kernel_rfl
def qEZ:K:=G [kMi 6 0] (Z (G [M 11 0,kN 12 11,kMi 13 0] (K.block 0 (K.loop (G [kB 14 13 12 .lss] (Z (Y 14 ks (K.exit 0)) (Z (K.block 1 (G [M 15 13,kX 16 11 13 3,J 17 16 3,kZ 8 [ki,ki,kl],M 7 15,S 8 17 3] (Z (G [M 18 7,M 19 1,kN 20 19,kB 21 18 20 .geq] (Y 21 (G [kMi 6 1] kr) ks)) (G [M 22 1,M 23 7,kX 24 22 23 3,J 25 24 3,kZ 9 [ki,ki,kl],S 9 25 3] (G [M 26 2,J 27 8 3,J 28 9 3,⟨none,.call (some 29) (kt 26) [(kt 27),(kt 28)]⟩,M 10 29] (G [M 30 10,kQi 31 30 0 true] (Y 31 (G [M 32 10,M 6 32] kr) ks))))))) (K.ops [kBi 33 13 1 .add,M 13 33]))))))) (Z (G [M 34 0,kN 35 34,M 36 1,kN 37 36,kB 38 35 37 .lss] (Y 38 (G [⟨none,.mov (some 6) (kc (-1))⟩] kr) ks)) (G [kMi 6 0] kr)))
theorem qMf:zR prog Tryz.f103.ntmps (Tryz.f103.body.getD .skip)=some qEZ.erase:=by kernel_rfl
@[simp] theorem qNw:zA prog 103=true:=by kernel_rfl
mutual
def zCd:Val→Val→Int
 | .mk k n l,.mk k' n' l'=>if orI [zA2 k k',zA2 n n',zA2 l.length l'.length]≠0 then orI [zA2 k k',zA2 n n',zA2 l.length l'.length] else zAu l l'
def zAu:List Val→List Val→Int
 | [],[]=>0
 | [],_::_=>-1
 | _::_,[]=>1
 | a::l,b::l'=>if zCd a b≠0 then zCd a b else zAu l l'
end
def zBa (a b:Val):Int:=orI [zA2 a.k b.k,zA2 a.n b.n,zA2 a.kids.length b.kids.length]
theorem zB2 (a b:Val):zCd a b=if zBa a b≠0 then zBa a b else zAu a.kids b.kids:=by cases a; cases b; rw[zCd]; rfl
theorem zJU (xs ys:List Val)(h:∀a∈xs,∀b∈ys,Ret prog 60 [.agg (zF a),.agg (zF b)] [] (int (zCd a b)) []) :
 Ret prog 103 [.sl xs.length (zK xs),.sl ys.length (zK ys),.clo 60 [] []] [] (int (zAu xs ys)) []:=by
 refine zI Tryz.func103 rfl qMf (rs:=[.slot 6]) (by kernel_rfl) ?_;unfold qEZ;simp;intro hl;refine jM (S:=Nat) (fun i=>[(0,.sl xs.length (zK xs)),(1,.sl ys.length (zK ys)),(2,.clo 60 [] []),(11,.sl xs.length (zK xs)),(12,int xs.length),(13,int i)]) (fun s=>[])
  (fun i=>i≤xs.length∧i≤ys.length∧zAu xs ys=zAu (xs.drop i) (ys.drop i)) (fun i=>xs.length-i) 0 (by simp)
  (zO [] 0 (by simp) (by simp) (by simp) (by simp)) ?_
 rintro i ⟨hi,hi',ho⟩;simp;refine qR (fun h1=>?_) (fun h1=>?_)<;>simp at h1
 ·have hd:xs.drop i=xs[i]::xs.drop (i+1):=jAu h1;simp[h1,jL h1];intro hl';refine qR (fun h2=>?_) (fun h2=>?_)<;>simp at h2
  ·simp;have hn:ys.drop i=[]:=jCt h2;exact zB 0 (by rw[ho,hd,hn]; simp[zAu])
  ·have hd':ys.drop i=ys[i]::ys.drop (i+1):=jAu h2;simp[h2,jL h2];refine qD (h xs[i] (jA3 _) ys[i] (jA3 _)) (by simp[zF]) (by simp) ?_;simp;refine qR (fun h3=>?_) (fun h3=>?_)<;>simp at h3
   ·simp;exact zB 0 (by rw[ho,hd,hd']; simp[zAu,h3])
   ·simp;refine zP (i+1) ⟨h1,h2,by rw[ho,hd,hd']; simp[zAu,h3]⟩ (by omega) (zO [] 0 (by simp) (by simp) (by simp) (by simp[qP h1 hl]))
 ·have:i=xs.length:=by omega
  subst this;simp;have hn:xs.drop xs.length=[]:=by simp
  intro _ hl';refine qR (fun h2=>?_) (fun h2=>?_)<;>simp at h2
  ·have hd':ys.drop xs.length=ys[xs.length]::ys.drop (xs.length+1):=jAu h2;simp;exact zB 0 (by rw[ho,hn,hd']; simp[zAu])
  ·have hn':ys.drop xs.length=[]:=jCt h2;simp;exact zB 0 (by rw[ho,hn,hn']; simp[zAu])
theorem zJ5 (a b:Val):Ret prog 60 [.agg (zF a),.agg (zF b)] [] (int (zCd a b)) []:=by
 refine zI Tryz.func60 rfl qMg (rs:=[.slot 4]) (by kernel_rfl) ?_;unfold qFa;simp[zF];refine qK (zBW a.k b.k) (by simp) (by simp) ?_;simp;refine qK (zBW a.n b.n) (by simp) (by simp) ?_;simp;refine qK (zBW a.kids.length b.kids.length) (by simp) (by simp) ?_;simp;refine qK (zVE [zA2 a.k b.k,zA2 a.n b.n,zA2 a.kids.length b.kids.length]) (by simp) (by simp) ?_;simp;refine qR (fun h=>?_) (fun h=>?_)<;>simp at h
 ·simp;exact zB 0 (by rw[zB2]; simp[zBa,h])
 ·simp;refine qD (zJU a.kids b.kids fun x hx y hy=>zJ5 x y) (by simp) (by simp) ?_;simp;exact zB 0 (by rw[zB2]; simp[zBa,h])
termination_by qC a
decreasing_by exact zAH hx
theorem zMN {a b:Int}(h:a<b):zA2 a b = -1:=by simp[zA2,h]
theorem zMM {a b:Int}(h:b<a):zA2 a b=1:=by simp[zA2,h,Int.not_lt.2 (Int.le_of_lt h)]
theorem zML {a b:Int}(h:b≤a)(h':a≤b):zA2 a b=0:=by simp[zA2,Int.not_lt.2 h,Int.not_lt.2 h']
def qEW:K:=G [kO 2 0,kO 3 1,kMi 4 0] (G [D 10 2 0,L 11 10 1,D 12 2 1,L 13 12 1,D 14 2 2,L 15 14 1,kN 16 15,kd 17 3 1 3 [ki,ki,ki] [(0,1,(kt 11)),(1,1,(kt 13)),(2,1,(kt 16))],M 5 17] (G [D 18 3 0,L 19 18 1,D 20 3 1,L 21 20 1,D 22 3 2,L 23 22 1,kN 24 23,kd 25 3 1 3 [ki,ki,ki] [(0,1,(kt 19)),(1,1,(kt 21)),(2,1,(kt 24))],M 6 25] (Z (G [kMi 7 0] (K.block 0 (K.loop (Z (G [M 26 7,kBi 27 26 3 .lss] (Y 27 ks (K.exit 0))) (Z (K.block 1 (Z (Z (K.dops [(0,0,M 30 5),(1,0,M 31 7),(2,0,kX 32 30 31 1),(3,0,L 33 32 1),(4,0,M 34 6),(5,0,M 35 7),(6,0,kX 36 34 35 1),(7,0,L 37 36 1),(8,0,kB 38 33 37 .lss)]) (Y 38 (G [⟨none,.mov (some 4) (kc (-1))⟩] kr) ks)) (Z (K.dops [(0,0,M 39 5),(1,0,M 40 7),(2,0,kX 41 39 40 1),(3,0,L 42 41 1),(4,0,M 43 6),(5,0,M 44 7),(6,0,kX 45 43 44 1),(7,0,L 46 45 1),(8,0,kB 47 42 46 .gtr)]) (Y 47 (G [kMi 4 1] kr) ks)))) (K.ops [M 28 7,kBi 29 28 1 .add,M 7 29])))))) (Z (G [kMi 8 0] (K.block 2 (K.loop (Z (G [M 48 8,D 49 2 2,L 50 49 1,kN 51 50,kB 52 48 51 .lss] (Y 52 ks (K.exit 2))) (Z (K.block 3 (Z (K.dops [(0,0,D 55 2 2),(1,0,L 56 55 1),(2,0,M 57 8),(3,0,kX 58 56 57 3),(4,0,J 59 58 3),(5,0,D 60 3 2),(6,0,L 61 60 1),(7,0,M 62 8),(8,0,kX 63 61 62 3),(9,0,J 64 63 3),(10,0,kC 65 18 [(kt 59),(kt 64)]),(11,0,M 9 65)]) (G [M 66 9,kQi 67 66 0 true] (Y 67 (G [M 68 9,M 4 68] kr) ks)))) (K.ops [M 53 8,kBi 54 53 1 .add,M 8 54])))))) (G [kMi 4 0] kr)))))
theorem qMc:zR prog Tryz.f18.ntmps (Tryz.f18.body.getD .skip)=some qEW.erase:=by kernel_rfl
@[simp] theorem qMS:zA prog 18=true:=by kernel_rfl
theorem zDU (a b:Val):Ret prog 18 [.agg (zF a),.agg (zF b)] [] (int (zCd a b)) []:=by
 refine zI Tryz.func18 rfl qMc (rs:=[.slot 4]) (by kernel_rfl) ?_;unfold qEW;simp[zF];intro hl hl';refine jM (S:=Nat) (fun i=>[(2,.ptr 0 0),(3,.ptr 1 0),(5,.sl 3 [int a.k,int a.n,int a.kids.length]),(6,.sl 3 [int b.k,int b.n,int b.kids.length]),(7,int i)])
  (fun s=>[.box [int a.k,int a.n,.sl a.kids.length (zK a.kids)],.box [int b.k,int b.n,.sl b.kids.length (zK b.kids)]])
  (fun i=>i≤3∧zBa a b=orI (([zA2 a.k b.k,zA2 a.n b.n,zA2 a.kids.length b.kids.length]).drop i)) (fun i=>3-i) 0 (by simp[zBa])
  (zO [0,1] 0 (by simp) (by simp) (by simp) (by simp)) ?_
 rintro i ⟨hi,ho⟩;rcases (by omega:i=0∨i=1∨i=2∨i=3)with rfl | rfl | rfl | rfl
 ·simp;refine qR (fun h1=>?_) (fun h1=>?_)<;>simp at h1
  ·simp;exact zB 0 (by rw[zB2,ho]; simp[orI,zMN h1])
  simp;refine qR (fun h2=>?_) (fun h2=>?_)<;>simp at h2
  ·simp;exact zB 0 (by rw[zB2,ho]; simp[orI,zMM h2])
  simp;exact zP 1 ⟨by omega,by rw[ho]; simp[orI,zML h1 h2]⟩ (by omega) (zO [0,1] 0 (by simp) (by simp) (by simp) (by simp; rfl))
 ·simp;refine qR (fun h1=>?_) (fun h1=>?_)<;>simp at h1
  ·simp;exact zB 0 (by rw[zB2,ho]; simp[orI,zMN h1])
  simp;refine qR (fun h2=>?_) (fun h2=>?_)<;>simp at h2
  ·simp;exact zB 0 (by rw[zB2,ho]; simp[orI,zMM h2])
  simp;exact zP 2 ⟨by omega,by rw[ho]; simp[orI,zML h1 h2]⟩ (by omega) (zO [0,1] 0 (by simp) (by simp) (by simp) (by simp; rfl))
 ·simp;refine qR (fun h1=>?_) (fun h1=>?_)<;>simp at h1
  ·simp;exact zB 0 (by rw[zB2,ho]; simp[orI,zMN (Int.ofNat_lt.2 h1)])
  simp;refine qR (fun h2=>?_) (fun h2=>?_)<;>simp at h2
  ·simp;exact zB 0 (by rw[zB2,ho]; simp[orI,zMM (Int.ofNat_lt.2 h2)])
  simp;exact zP 3 ⟨by omega,by rw[ho]; simp[orI,zML (Int.ofNat_le.2 h1) (Int.ofNat_le.2 h2)]⟩ (by omega) (zO [0,1] 0 (by simp) (by simp) (by simp) (by simp; rfl))
 have hlen:a.kids.length=b.kids.length:=by
  have h0:zBa a b=0:=by rw[ho]; rfl
  simp only[zBa,orI]at h0;split at h0<;>try contradiction
  split at h0<;>try contradiction
  split at h0<;>try contradiction
  rename_i _ _ h;simp only[zA2]at h;split at h
  ·cases h
  ·split at h
   ·cases h
   ·omega
 simp;refine jM (S:=Nat) (fun i=>[(2,.ptr 0 0),(3,.ptr 1 0),(8,int i)])
  (fun s=>[.box [int a.k,int a.n,.sl a.kids.length (zK a.kids)],.box [int b.k,int b.n,.sl b.kids.length (zK b.kids)]])
  (fun i=>i≤a.kids.length∧zCd a b=zAu (a.kids.drop i) (b.kids.drop i)) (fun i=>a.kids.length-i) 0 ⟨by omega,by rw[zB2,ho]; simp[orI]⟩
  (zO [0,1] 0 (by simp) (by simp) (by simp) (by simp)) ?_
 rintro i ⟨hi,ho⟩;simp;intro _;refine qR (fun h1=>?_) (fun h1=>?_)<;>simp at h1
 ·have h2:i<b.kids.length:=by omega
  have hd:a.kids.drop i=a.kids[i]::a.kids.drop (i+1):=jAu h1;have hd':b.kids.drop i=b.kids[i]::b.kids.drop (i+1):=jAu h2;simp[h1,h2,jL h1,jL h2];refine qK (zDU a.kids[i] b.kids[i]) (by simp[zF]) (by simp) ?_;simp;refine qR (fun h3=>?_) (fun h3=>?_)<;>simp at h3
  ·simp;exact zB 0 (by rw[ho,hd,hd']; simp[zAu,h3])
  ·simp;exact zP (i+1) ⟨h1,by rw[ho,hd,hd']; simp[zAu,h3]⟩ (by omega) (zO [0,1] 0 (by simp) (by simp) (by simp) (by simp[qP h1 hl]))
 ·simp;have e1:a.kids.drop i=[]:=jCt h1;have e2:b.kids.drop i=[]:=jCt (by omega);exact zB 0 (by rw[ho,e1,e2]; simp[zAu])
termination_by qC a
decreasing_by exact zAH (jA3 _)
def zTU:K:=G [kO 2 0,kO 3 1,kMb 4 false] (G [D 5 2 0,L 6 5 1,D 7 3 0,L 8 7 1,kQ 9 6 8 false,M 10 9,T 10 true (D 11 2 1),T 10 true (J 12 11 3),T 10 true (D 13 3 1),T 10 true (J 14 13 3),⟨some (10,true),.eqs (some 15) false [.i,.i,.i] (kt 12) (kt 14)⟩,kPf 16 10 15,M 17 16,T 17 true (D 18 2 4),T 17 true (L 19 18 1),T 17 true (D 20 3 4),T 17 true (L 21 20 1),T 17 true (kC 22 140 [(kt 19),(kt 21),(.func 90)]),kPf 23 17 22,M 4 23] kr)
theorem qAk:zR prog Tryz.f90.ntmps (Tryz.f90.body.getD .skip)=some zTU.erase:=by kernel_rfl
@[simp] theorem zUq:zA prog 90=true:=by kernel_rfl
mutual
def zFX:Typ→Typ→Bool
 | .mk k i l,.mk k' i' l'=>decide (k=k')&&(decide (i=i')&&zHp l l')
def zHp:List Typ→List Typ→Bool
 | [],[]=>true
 | x::a,y::b=>zFX x y&&zHp a b
 | _,_=>false
end
theorem zM0:∀(a b:List Typ),zHp a b=zGy zFX a b
 | [],[]=>by simp only[zHp,zGy]
 | x::a,y::b=>by simp only[zHp,zGy,zM0 a b]
 | [],_::_=>by simp only[zHp,zGy]
 | _::_,[]=>by simp only[zHp,zGy]
theorem zT6 (a b:Typ):zFX a b=(decide (a.k=b.k)&&(decide (a.id=b.id)&&zGy zFX a.kids b.kids)):=by cases a; cases b; simp only[zFX,zM0]; rfl
mutual
theorem zJo:∀(a b:Typ),Ret prog 90 [.agg (zU a),.agg (zU b)] [] (bl (zFX a b)) []
 | .mk k i l,b=>by
  have ih:=zHW l;generalize ha:Typ.mk k i l=a;have hal:a.kids=l:=by rw[←ha]; rfl
  rw[←hal]at ih;refine zI Tryz.func90 rfl qAk (rs:=[.slot 4]) (by kernel_rfl) ?_;unfold zTU;have hd:=zT6 a b;by_cases h1:a.k=b.k
  ·by_cases h2:a.id=b.id
   ·simp[zU,h1,h2];refine qD (zWR 90 zUq zFX a.kids b.kids fun x hx y hy=>ih x hx y) (by simp) (by simp) ?_;simp;exact zB 0 (by simp[hd,h1,h2])
   ·have h3:zFi a.id.a a.id.b a.id.c b.id.a b.id.b b.id.c=false:=by rw[zAS]; exact decide_eq_false h2
    simp[zU,h1,h3];exact zB 0 (by simp[hd,h2])
  ·simp[zU,h1];exact zB 0 (by simp[hd,h1])
theorem zHW:∀(l:List Typ),∀x∈l,∀y:Typ,Ret prog 90 [.agg (zU x),.agg (zU y)] [] (bl (zFX x y)) []
 | [],x,hx,_=>by simp at hx
 | z::l,x,hx,y=>by
  rcases jA7.1 hx with e | hx
  ·rw[e]; exact zJo z y
  ·exact zHW l x hx y
end
def zPO (k:Int):Bool:=decide (k=2)||(decide (k=3)||(decide (k=4)||decide (k=5)))
@[simp] theorem qMR:zA prog 206=true:=by kernel_rfl
def zBB (n:Int):Int:=if 1099511627776<n then 1099511627776 else if n < -1099511627776 then -1099511627776 else n
@[simp] theorem qNd:zA prog 205=true:=by kernel_rfl
def zBI (b:Bool):Val:=.mk 1 (if b then 1 else 0) []
structure EVar where
 id:Id
 n:Int
 v:Val
def zDC (b:EVar):List A:=[.lit (.int .i64 b.id.a),.lit (.int .i64 b.id.b),.lit (.int .i64 b.id.c),.lit (.int .i64 b.n),.lit (.int .i64 b.v.k),.lit (.int .i64 b.v.n),.sl b.v.kids.length (zK b.v.kids)]
theorem zF8 (b:EVar):qF (zDC b):=by have h:=zBn b.v.kids;exact⟨by simp[zDC,h.1],fun rf g=>by simp[zDC,h.2]⟩
def zCT (l:List EVar):List A:=l.flatMap zDC
theorem zG7 (l:List EVar):qF (zCT l):=zAW zF8 l
@[simp] theorem zX3 (l:List EVar):qV (zCT l)=zCT l:=(zG7 l).1
@[simp] theorem qCi {rf g}(l:List EVar):vwL rf g (zCT l)=zCT l:=(zG7 l).2 _ _
@[simp] theorem zYV:zCT []=[]:=rfl
@[simp] theorem zYU (l:List EVar):(zCT l).length=l.length*7:=by rw[zCT,zBC (k:=7) (fun _=>rfl)]
@[simp] theorem qCY (d:EVar):(zDC d).length=7:=rfl
@[simp] theorem qCX (d:EVar):(zDC d).take 7=zDC d:=jAj (jA _)
@[simp] theorem qAH (d:EVar)(l:List A):(zDC d++l).take 7=zDC d:=by rw[jC (by simp)]; exact jAj (by simp)
@[simp] theorem qBw (d:EVar):qV (zDC d)=zDC d:=(zF8 d).1
@[simp] theorem qIU (d:EVar) {rf g}:vwL rf g (zDC d)=zDC d:=(zF8 d).2 _ _
@[simp] theorem qNi:zA prog 170=true:=by kernel_rfl
def zEc (env:List EVar)(id:Id)(n:Int):Val:=((env.reverse.find? fun b=>decide (b.id=id∧b.n=n)).map EVar.v).getD (.mk 0 0 [])
theorem zKh (env:List EVar)(b:EVar)(id:Id)(n:Int):zEc (env++[b]) id n=if b.id=id∧b.n=n then b.v else zEc env id n:=by unfold zEc;rw[List.reverse_append,List.reverse_singleton,jCx,jD5];by_cases h:b.id=id∧b.n=n<;>simp[h]
@[simp] theorem qMW:zA prog 198=true:=by kernel_rfl
def qFd:K:=G [kO 1 0,kMi 2 0] (G [kMi 3 1] (Z (G [D 6 1 2,L 7 6 1,kN 8 7,kMi 9 0] (K.block 0 (K.loop (G [kB 10 9 8 .lss] (Z (Y 10 ks (K.exit 0)) (Z (K.block 1 (G [kX 11 7 9 3,J 12 11 3,kZ 5 [ki,ki,kl],S 5 12 3] (K.ops [M 13 3,J 14 5 3,kC 15 151 [(kt 14)],kB 16 13 15 .add,M 3 16]))) (K.ops [kBi 17 9 1 .add,M 9 17]))))))) (G [M 18 3,M 2 18] kr)))
theorem qMj:zR prog Tryz.f151.ntmps (Tryz.f151.body.getD .skip)=some qFd.erase:=by kernel_rfl
@[simp] theorem qN2:zA prog 151=true:=by kernel_rfl
theorem zN1 (v:Val):Ret prog 151 [.agg (zF v)] [] (int (zFZ v)) []:=by
 refine zI Tryz.func151 rfl qMj (rs:=[.slot 2]) (by kernel_rfl) ?_;unfold qFd;simp[zF];intro hl;refine jM (S:=Nat) (fun i=>[(3,int (zN4 (v.kids.take i))),(7,.sl v.kids.length (zK v.kids)),(8,int v.kids.length),(9,int i)]) (fun s=>[]) (fun i=>i≤v.kids.length) (fun i=>v.kids.length-i) 0 (by simp)
  (zO [] 0 (by simp) (by simp) (by simp) (by simp[zN4])) ?_
 intro i hi;simp;by_cases h:i<v.kids.length
 ·simp[h,jL h];refine qD (zN1 v.kids[i]) (by simp[zF]) (by simp) ?_;simp;exact zP (i+1) h (by omega) (zO [] 0 (by simp) (by simp) (by simp) (by simp[qP h hl,zM6 h]))
 ·have:i=v.kids.length:=by omega
  subst this;simp;exact zB 0 (by simp[zP0 v])
termination_by qC v
decreasing_by exact zAH (jA3 _)
def qFc:K:=G [kO 1 0,kMb 2 false] (G [kZ 3 [ki],⟨none,.st none (kt 3) (kc 256) 1⟩] (G [kZ 4 [.nilFunc]] (G [⟨none,.clo (some 5) 111 [] [(kt 3),(kt 4)]⟩,S 4 5 1] (G [L 6 4 1,J 7 1 3,⟨none,.call (some 8) (kt 6) [(kt 7),(kc 1)]⟩,M 2 8] kr))))
theorem qMi:zR prog Tryz.f73.ntmps (Tryz.f73.body.getD .skip)=some qFc.erase:=by kernel_rfl
@[simp] theorem qN1:zA prog 73=true:=by kernel_rfl
def zY6:K:=G [kO 4 0,kO 5 1,kMb 6 false] (G [L 7 2 1,kBi 8 7 1 .sub,S 2 8 1] (G [L 9 2 1,kBi 10 9 0 .geq,M 11 10,T 11 true (L 12 5 1),T 11 true (kBi 13 12 24 .leq),kPf 14 11 13,M 15 14,T 15 true (D 16 4 2),T 15 true (L 17 16 1),⟨some (15,true),.clo (some 18) 113 [] [(kt 3),(kt 5)]⟩,T 15 true (kC 19 112 [(kt 17),(kt 18)]),T 15 true (kR 20 19),kPf 21 15 20,M 6 21] kr))
theorem qGn:zR prog Tryz.f111.ntmps (Tryz.f111.body.getD .skip)=some zY6.erase:=by kernel_rfl
@[simp] theorem qJX:zA prog 111=true:=by kernel_rfl
def zZO:K:=G [kMb 4 false] (G [M 5 0,M 6 1,kC 7 153 [(kt 5),(kt 6)],kBi 8 7 0 .geq,M 4 8] kr)
theorem qGh:zR prog Tryz.f112.ntmps (Tryz.f112.body.getD .skip)=some zZO.erase:=by kernel_rfl
@[simp] theorem qNy:zA prog 112=true:=by kernel_rfl
def zY7:K:=G [kO 3 0,kMb 4 false] (G [L 5 1 1,J 6 3 3,L 7 2 1,kBi 8 7 1 .add,⟨none,.call (some 9) (kt 5) [(kt 6),(kt 8)]⟩,kR 10 9,M 4 10] kr)
theorem qGo:zR prog Tryz.f113.ntmps (Tryz.f113.body.getD .skip)=some zY7.erase:=by kernel_rfl
@[simp] theorem qJY:zA prog 113=true:=by kernel_rfl
def zZP:K:=G [kMi 4 0] (Z (G [M 6 0,kN 7 6,kMi 8 0] (K.block 0 (K.loop (G [kB 9 8 7 .lss] (Z (Y 9 ks (K.exit 0)) (Z (K.block 1 (G [M 10 8,M 5 10] (G [M 11 1,M 12 0,M 13 5,kX 14 12 13 3,J 15 14 3,⟨none,.call (some 16) (kt 11) [(kt 15)]⟩] (Y 16 (G [M 17 5,M 4 17] kr) ks)))) (K.ops [kBi 18 8 1 .add,M 8 18]))))))) (G [⟨none,.mov (some 4) (kc (-1))⟩] kr))
theorem qGm:zR prog Tryz.f153.ntmps (Tryz.f153.body.getD .skip)=some zZP.erase:=by kernel_rfl
@[simp] theorem qN0:zA prog 153=true:=by kernel_rfl
mutual
def zAx:Val→Nat
 | .mk _ _ l=>yX l+1
def yX:List Val→Nat
 | []=>0
 | v::l=>max (zAx v) (yX l)
end
theorem zCc (v:Val):zAx v=yX v.kids+1:=by cases v; simp only[zAx,Val.kids]
theorem zCt (v:Val):qC v=1+jH v.kids:=by cases v; simp only[qC,Val.kids]
theorem zIV:∀{l:List Val} {v:Val},v∈l→zAx v≤yX l
 | x::l,v,h=>by
  simp only[yX];rcases jA7.1 h with rfl | h
  ·omega
  ·have:=zIV h; omega
theorem zBU:∀(a b:List Val),jH (a++b)=jH a+jH b
 | [],b=>by simp[jH]
 | x::a,b=>by simp[jH,zBU a b]; omega
theorem zJq {l:List Val}{i:Nat}(h:i<l.length):jH (l.take (i+1))=jH (l.take i)+qC l[i]:=by rw[jAa h,zBU]; simp[jH]
theorem zIa (l:List Val)(i:Nat):jH l=jH (l.take i)+jH (l.drop i):=by
 conv=>lhs; rw[←jC7 i l]
 exact zBU _ _
def zB8:A:=.clo 111 [] [.ptr 0 0,.ptr 1 0]
def sSt (L:Nat):St:=[.box [int L],.box [zB8]]
def zEt (L:Nat)(d:Int):St:=[.box [int L],.box [zB8],.box [int d]]
def zJ3 (v:Val)(d:Int):Prop:=∀L:Nat,qC v≤L→L≤256→Ret prog 111 [.agg (zF v),int d,.ptr 0 0,.ptr 1 0] (sSt L) (bl true) (sSt (L-qC v))
theorem zT9 (v:Val)(d:Int)(hd:0≤d∧d≤100)(h:zJ3 v (d+1))(L:Nat)(hL:qC v≤L)(hL2:L≤256) :
 Ret prog 113 [.agg (zF v),.ptr 1 0,.ptr 2 0] (zEt L d) (bl false) (zEt (L-qC v) d):=by
 refine zI Tryz.func113 rfl qGo (rs:=[.slot 4]) (by kernel_rfl) ?_;unfold zY7;have hw:=jS (d+1) (by omega);simp[zEt,zB8,hw,zF];refine jJ (h L hL hL2) [0,1] (by simp) (by simp[sSt,zB8]) (by simp[zF]) ?_;simp[sSt,zB8];exact zH [0,1,2] 0 (by decide) (by simp) (by simp[zB8]) (by simp)
theorem zXj (l:List Val)(d:Int)(hd:0≤d∧d≤100)(h:∀x∈l,zJ3 x (d+1))(L:Nat)(hL:jH l≤L)(hL2:L≤256) :
 Ret prog 153 [.sl l.length (zK l),.clo 113 [] [.ptr 1 0,.ptr 2 0]] (zEt L d) (int (-1)) (zEt (L-jH l) d):=by
 refine zI Tryz.func153 rfl qGm (rs:=[.slot 4]) (by kernel_rfl) ?_;unfold zZP;simp[zEt,zB8];intro hl;refine jM (S:=Nat) (fun i=>[(0,.sl l.length (zK l)),(1,.clo 113 [] [.ptr 1 0,.ptr 2 0]),(6,.sl l.length (zK l)),(7,int l.length),(8,int i)]) (fun i=>zEt (L-jH (l.take i)) d) (fun i=>i≤l.length) (fun i=>l.length-i) 0 (by simp)
  (zO [0,1,2] 0 (by decide) (by simp) (by simp[zEt,zB8,jH]) (by simp)) ?_
 intro i hi;by_cases hil:i<l.length
 ·have e1:=zJq hil;have e2:=zIa l (i+1);simp[hil,jL hil,zEt,zB8];refine jJ (zT9 l[i] d hd (h _ (jA3 hil)) (L-jH (l.take i)) (by omega) (by omega)) [0,1,2] (by simp) (by simp[zEt,zB8]) (by simp[zF]) ?_;simp[zEt,zB8];exact zP (i+1) hil (by omega) (zO [0,1,2] 0 (by decide) (by simp) (by simp[zEt,zB8,e1,Nat.sub_sub]) (by simp[qP hil hl]))
 ·have:i=l.length:=by omega
  subst this;simp[zEt,zB8];exact zH [0,1,2] 0 (by decide) (by simp) (by simp[zB8]) (by simp)
theorem zWF (l:List Val)(d:Int)(hd:0≤d∧d≤100)(h:∀x∈l,zJ3 x (d+1))(L:Nat)(hL:jH l≤L)(hL2:L≤256) :
 Ret prog 112 [.sl l.length (zK l),.clo 113 [] [.ptr 1 0,.ptr 2 0]] (zEt L d) (bl false) (zEt (L-jH l) d):=by
 refine zI Tryz.func112 rfl qGh (rs:=[.slot 4]) (by kernel_rfl) ?_;unfold zZO;simp[zEt,zB8];refine jJ (zXj l d hd h L hL hL2) [0,1,2] (by simp) (by simp[zEt,zB8]) (by simp) ?_;simp[zEt,zB8];exact zH [0,1,2] 0 (by decide) (by simp) (by simp[zB8]) (by simp)
theorem zKW (v:Val)(d:Int)(hd:1≤d∧d+zAx v≤25):zJ3 v d:=by
 intro L hL hL2;refine zI Tryz.func111 rfl qGn (rs:=[.slot 6]) (by kernel_rfl) ?_;unfold zY6;have e1:=zCt v;have e2:=zCc v;have hw:IntKind.i64.wrap ((L:Int)-1)=((L-1:Nat):Int):=by rw[IntWalk.i64_in _ (by omega)]; omega
 have hd24:d≤24:=by omega
 simp[sSt,zB8,hw,hd24,zF];refine jJ (zWF v.kids d (by omega) (fun x hx=>zKW x (d+1) (by have:=zIV hx; omega)) (L-1) (by omega) (by omega)) [0,1,3] (by simp) (by simp[zEt,zB8]) (by simp) ?_;simp[zEt,zB8];exact zH [0,1] 0 (by decide) (by simp) (by simp[zB8,e1,Nat.sub_sub]) (by simp)
termination_by qC v
decreasing_by exact zAH hx
theorem zWa (v:Val)(h1:qC v≤256)(h2:zAx v≤24):Ret prog 73 [.agg (zF v)] [] (bl true) []:=by refine zI Tryz.func73 rfl qMi (rs:=[.slot 2]) (by kernel_rfl) ?_;unfold qFc;simp[zF];refine jJ (zKW v 1 (by omega) 256 h1 (by omega)) [1,2] (by simp) (by simp[sSt,zB8]) (by simp[zF]) ?_;simp[sSt,zB8];exact zB 0 (by simp)
def zOV (l:List Id):List (List Int×A):=l.foldl (fun es d=>putI (zHd d) (.lit (.bool true)) es) []
theorem zTl (l:List Id)(x:Id):zOV (l++[x])=putI (zHd x) (.lit (.bool true)) (zOV l):=by simp[zOV,jCg]
theorem zV2 (l:List Id)(k:Nat):∀p∈zOV l,p.2.bnd k=true:=by
 induction l using zGw with
 | nil=>simp[zOV]
 | snoc l y ih =>
  rw[zTl];have:∀es:List (List Int×A),(∀p∈es,p.2.bnd k=true)→∀p∈putI (zHd y) (.lit (.bool true)) es,p.2.bnd k=true:=by
   intro es;induction es with
   | nil=>intro _ p hp; simp[putI]at hp; subst hp; rfl
   | cons q es ih =>
    intro h p hp;simp only[putI]at hp;split at hp
    ·rcases jA7.1 hp with rfl | hp
     ·rfl
     ·exact h p (jAh _ hp)
    ·rcases jA7.1 hp with rfl | hp
     ·exact h _ (jAk ..)
     ·exact ih (fun p hp=>h p (jAh _ hp)) p hp
  exact this _ ih
@[simp] theorem qK7 {rf:Bool→Nat→Nat→A}{g:Nat→Option Nat}(l:List Id):((zOV l).map fun p=>(p.1,vw rf g p.2))=zOV l:=by
 have h:=zV2 l 0;generalize zOV l=es at h;induction es with
 | nil=>rfl
 | cons p es ih =>
  rw[jA9,ih fun q hq=>h q (jAh _ hq),zLb (k:=0) (fun l hl=>by omega) p.2 (h p (jAk ..))]
def KAt:K:=G [kMi 6 0] (Z (G [M 7 1,kBi 8 7 0 .lss,M 9 8,T 9 false (M 10 1),T 9 false (M 11 0),T 9 false (kN 12 11),T 9 false (kB 13 10 12 .geq),kPt 14 9 13] (Y 14 (G [kMi 6 0] kr) ks)) (G [M 15 0,M 16 1,kX 17 15 16 1,L 18 17 1,M 19 2,kC 20 12 [(kt 18),(kt 19)],M 6 20] kr))
theorem cAt:zR prog Tryz.f38.ntmps (Tryz.f38.body.getD .skip)=some KAt.erase:=by kernel_rfl
@[simp] theorem qO2:zA prog 38=true:=by kernel_rfl
@[simp] theorem qMX:zA prog 83=true:=by kernel_rfl
def KOf:K:=G [kO 1 0,kZ 2 kz2] (G [J 3 1 3,kb 4 kz2 [(0,1,(kc 3)),(1,3,(kt 3))],S 2 4 5] kr)
theorem cOf:zR prog Tryz.f62.ntmps (Tryz.f62.body.getD .skip)=some KOf.erase:=by kernel_rfl
@[simp] theorem qO3:zA prog 62=true:=by kernel_rfl
@[simp] theorem qJB:zA prog 126=true:=by kernel_rfl
@[simp] theorem qCL:zA prog 39=true:=by kernel_rfl
@[simp] theorem qML:zA prog 128=true:=by kernel_rfl
@[simp] theorem qJE:zA prog 132=true:=by kernel_rfl
@[simp] theorem qJC:zA prog 133=true:=by kernel_rfl
@[simp] theorem qN5:zA prog 168=true:=by kernel_rfl
@[simp] theorem qMM:zA prog 167=true:=by kernel_rfl
@[simp] theorem qJZ:zA prog 130=true:=by kernel_rfl
@[simp] theorem qAm:zA prog 129=true:=by kernel_rfl
@[simp] theorem qG2:zA prog 134=true:=by kernel_rfl
def atV (l:List Int)(i most:Int):Int:=if i<0∨(l.length:Int)≤i then 0 else zBJ (l.getD i.toNat 0) most
theorem qFq (l:List Int)(i most:Int)(hm:0<most):Ret prog 38 [.sl l.length (zAM l),int i,int most] [] (int (atV l i most)) []:=by
 refine zI Tryz.func38 rfl cAt (rs:=[.slot 6]) (by kernel_rfl) ?_;unfold KAt;by_cases h:i<0
 ·simp[h];exact zB 0 (by simp[atV,h])
 by_cases h2:(l.length:Int)≤i
 ·simp[h,h2];exact fun _=>zB 0 (by simp[atV,h2])
 ·obtain⟨j,rfl⟩:∃j:Nat,i=j:=⟨i.toNat,by omega⟩;have hj:j<l.length:=by omega
  have hd:=zEk hj;simp[h,h2,hj,hd];intro _;refine qD (zGd l[j] most hm) (by simp) (by simp) ?_;simp;exact zB 0 (by simp[atV,hj,h,show ¬l.length≤j by omega])
theorem zBQ {l:List Int}{i most:Int}(hl:∀x∈l,w64 x=x)(hm:0<most):0≤atV l i most∧atV l i most<most:=by
 unfold atV;split
 ·omega
 ·rename_i h;have hj:i.toNat<l.length:=by omega
  rw[jBk,jA2 hj];exact zCR (hl _ (jA3 hj)) hm
def idR (k:Int):Id:=⟨0,IntKind.i64.wrap (1+IntKind.i64.wrap (k.tdiv 32)),k.tmod 32⟩
theorem zZ1 (d:Id):Ret prog 62 [.agg (zC d)] [] (.agg (zU (.mk 3 d []))) []:=by refine zI Tryz.func62 rfl cOf (rs:=[.cell 2 5 true]) (by kernel_rfl) ?_;unfold KOf;simp[zC];exact zB 0 (by simp[zU])
structure Mk where
 mods:List Md
 defs:List Dfn
 l:List Int
 at_:Int
 temp:Int
 left:Int
 own:Int
 home:Id
 name:Int
def mkB (m:Mk):List A:=[.sl m.mods.length (qQ m.mods),.row 1 m.defs.length,.sl m.l.length (zAM m.l),int m.at_,int m.temp,int m.left,int m.own,int m.home.a,int m.home.b,int m.home.c,int m.name]
def mkS (m:Mk):St:=[.box (mkB m),.row false 41 31 m.defs.length (qB m.defs)]
def scA:List EVar→A
 | []=>.lit (.pointer none)
 | b::l=>.rptr (zDC b++[scA l])
@[simp] theorem qKP:scA []=.lit (.pointer none):=rfl
theorem zFY (b:EVar)(l:List EVar):scA (b::l)=.rptr [.lit (.int .i64 b.id.a),.lit (.int .i64 b.id.b),.lit (.int .i64 b.id.c),.lit (.int .i64 b.n),.lit (.int .i64 b.v.k),.lit (.int .i64 b.v.n),.sl b.v.kids.length (zK b.v.kids),scA l]:=rfl
@[simp] theorem zVA:∀l:List EVar,nrm0 (scA l)=scA l
 | []=>rfl
 | b::l=>by simp[zFY,zVA l]
@[simp] theorem qCj {rf:Bool→Nat→Nat→A}{g:Nat→Option Nat}:∀l:List EVar,vw rf g (scA l)=scA l
 | []=>rfl
 | b::l=>by simp[zFY,qCj l]
@[simp] theorem zYQ (l:List EVar):cellsOf (scA l)=some [scA l]:=by cases l<;>rfl
abbrev scE (V:List EVar):A:=scA V.reverse
@[simp] theorem qKQ:scE []=.lit (.pointer none):=rfl
@[simp] theorem qI2 (V:List EVar)(b:EVar):scE (V++[b])=scA (b::V.reverse):=by simp[scE]
@[simp] theorem qDL (V:List EVar)(a b:EVar):scE (V++[a,b])=scA (b::a::V.reverse):=by simp[scE]
def zJa (l:List EVar)(id:Id)(n:Int):Val:=((l.find? fun b=>decide (b.id=id∧b.n=n)).map EVar.v).getD (.mk 0 0 [])
theorem zQl (b:EVar)(l:List EVar)(id:Id)(n:Int):zJa (b::l) id n=if b.id=id∧b.n=n then b.v else zJa l id n:=by unfold zJa;rw[jD5];by_cases h:b.id=id∧b.n=n<;>simp[h]
def zVQ (a b c n a' b' c' n':Int):Bool:=decide (Id.mk a b c=Id.mk a' b' c'∧n=n')
@[simp] theorem qI1 {x y:Id}{n m:Int}:zVQ x.a x.b x.c n y.a y.b y.c m=decide (x=y∧n=m):=rfl
@[simp] theorem qGS {a b c n a' b' c' n':Int}:zMR [.i,.i,.i,.i] false (.agg [.lit (.int .i64 a),.lit (.int .i64 b),.lit (.int .i64 c),.lit (.int .i64 n)]) (.agg [.lit (.int .i64 a'),.lit (.int .i64 b'),.lit (.int .i64 c'),.lit (.int .i64 n')]) =
 some (.lit (.bool (zVQ a b c n a' b' c' n'))):=by simp[zMR,zAf,zBX,zBs,and_assoc,zVQ]
def qEK:K:=G [kO 3 1,kZ 4 [ki,ki,kl]] (Z (K.block 0 (K.loop (Z (G [M 5 0,⟨none,.isp (some 6) true (kt 5)⟩] (Y 6 ks (K.exit 0))) (Z (K.block 1 (Z (K.dops [(0,0,M 11 0),(1,0,kU 12 11),(2,0,D 13 12 0),(3,0,J 14 13 4),(4,0,J 15 3 4),(5,0,⟨none,.eqs (some 16) false [.i,.i,.i,.i] (kt 14) (kt 15)⟩)]) (Y 16 (G [M 17 0,kU 18 17,D 19 18 4,J 20 19 3,S 4 20 3] kr) ks))) (K.ops [M 7 0,kU 8 7,D 9 8 7,L 10 9 1,M 0 10]))))) (G [kb 21 [ki,ki,kl] [],S 4 21 3] kr))
theorem qLQ:zR prog Tryz.f175.ntmps (Tryz.f175.body.getD .skip)=some qEK.erase:=by kernel_rfl
@[simp] theorem qM3:zA prog 175=true:=by kernel_rfl
theorem zUD (l:List EVar)(id:Id)(n:Int):Ret prog 175 [scA l,.agg [int id.a,int id.b,int id.c,int n]] [] (.agg (zF (zJa l id n))) []:=by
 refine zI Tryz.func175 rfl qLQ (rs:=[.cell 4 3 true]) (by kernel_rfl) ?_;unfold qEK;simp;refine jM (S:=List EVar) (fun s=>[(0,scA s),(3,.ptr 0 0),(4,.ptr 1 0)]) (fun _=>[.box [int id.a,int id.b,int id.c,int n],.box [int 0,int 0,.nil]])
  (fun s=>zJa l id n=zJa s id n) (fun s=>s.length) l rfl (zO [0,1] 0 (by decide) (by simp) (by simp) (by simp)) ?_
 intro s hs;cases s with
 | nil =>
  simp;exact zB 0 (by rw[hs]; simp[zJa,zF,Val.k,Val.n,Val.kids])
 | cons b s =>
  rw[zQl]at hs;by_cases h:b.id=id∧b.n=n
  ·rw[if_pos h]at hs;obtain⟨rfl,rfl⟩:=h;simp[zFY];exact zB 0 (by rw[hs]; simp[zF])
  ·rw[if_neg h]at hs;have hd:decide (b.id=id∧b.n=n)=false:=by simpa using h
   simp[zFY,hd,-Bool.decide_and];exact zP s hs (by simp) (zO [0,1] 0 (by decide) (by simp) (by simp) (by simp))
def qER:K:=G [kO 5 1,kO 7 3,⟨none,.mov (some 8) (.const (.pointer none))⟩] (G [J 9 5 3,M 10 2,kb 11 qHz [(0,3,(kt 9)),(3,1,(kt 10))],J 12 7 3,M 13 0,kb 14 [ki,ki,ki,ki,ki,ki,kl,(.pointer none)] [(0,4,(kt 11)),(4,3,(kt 12)),(7,1,(kt 13))],kO 15 14,M 8 15] kr)
theorem qLX:zR prog Tryz.f109.ntmps (Tryz.f109.body.getD .skip)=some qER.erase:=by kernel_rfl
@[simp] theorem qMB:zA prog 109=true:=by kernel_rfl
theorem zCl (l:List EVar)(b:EVar):Ret prog 109 [scA l,.agg (zC b.id),int b.n,.agg (zF b.v)] [] (scA (b::l)) []:=by refine zI Tryz.func109 rfl qLX (rs:=[.slot 8]) (by kernel_rfl) ?_;unfold qER;simp[zC,zF];exact zB 1 (by simp[zFY])
def qEI:K:=G [kO 1 0,kMi 2 0] (G [kMi 3 0] (Z (G [D 6 1 2,L 7 6 1,kN 8 7,kMi 9 0] (K.block 0 (K.loop (G [kB 10 9 8 .lss] (Z (Y 10 ks (K.exit 0)) (Z (K.block 1 (G [kX 11 7 9 3,J 12 11 3,kZ 5 [ki,ki,kl],S 5 12 3] (K.ops [M 13 3,J 14 5 3,kC 15 152 [(kt 14)],⟨none,.mm (some 16) true [(kt 13),(kt 15)]⟩,M 3 16]))) (K.ops [kBi 17 9 1 .add,M 9 17]))))))) (G [M 18 3,kBi 19 18 1 .add,M 2 19] kr)))
theorem qLO:zR prog Tryz.f152.ntmps (Tryz.f152.body.getD .skip)=some qEI.erase:=by kernel_rfl
@[simp] theorem qM0:zA prog 152=true:=by kernel_rfl
theorem zIw (v:Val):Ret prog 152 [.agg (zF v)] [] (int (zDo v)) []:=by
 refine zI Tryz.func152 rfl qLO (rs:=[.slot 2]) (by kernel_rfl) ?_;unfold qEI;simp[zF];intro hl;refine jM (S:=Nat) (fun i=>[(3,int (zNk (v.kids.take i))),(7,.sl v.kids.length (zK v.kids)),(8,int v.kids.length),(9,int i)]) (fun s=>[]) (fun i=>i≤v.kids.length) (fun i=>v.kids.length-i) 0 (by simp)
  (zO [] 0 (by simp) (by simp) (by simp) (by simp[zNk])) ?_
 intro i hi;simp;by_cases h:i<v.kids.length
 ·simp[h,jL h];refine qD (zIw v.kids[i]) (by simp[zF]) (by simp) ?_;simp;exact zP (i+1) h (by omega) (zO [] 0 (by simp) (by simp) (by simp) (by simp[qP h hl,zMm h,zTm]))
 ·have:i=v.kids.length:=by omega
  subst this;simp;exact zB 0 (by simp[zLC v,w64])
termination_by qC v
decreasing_by exact zAH (jA3 _)
def zE:List A:=[.lit (.int .i64 0),.lit (.int .i64 0),.lit (.int .i64 0),.lit (.int .i64 0),.lit (.int .i64 0),.lit (.int .i64 0),.lit (.int .i64 0),.lit (.int .i64 0),.lit (.int .i64 0),.lit (.int .i64 0),.lit (.int .i64 0),.lit (.int .i64 0),.nil,.nil,.nil]
def zD:List A:=[.lit (.int .i64 0),.lit (.int .i64 0),.lit (.int .i64 0),.lit (.int .i64 0),.lit (.int .i64 0),.lit (.int .i64 0),.lit (.int .i64 0),.lit (.string ⟨#[]⟩),.nil,.lit (.int .i64 0),.lit (.int .i64 0),.lit (.int .i64 0),.lit (.int .i64 0),.nil,.lit (.int .i64 0),.lit (.int .i64 0),.lit (.int .i64 0),.lit (.int .i64 0),.lit (.int .i64 0),.lit (.int .i64 0),.lit (.int .i64 0),.lit (.int .i64 0),.lit (.int .i64 0),.lit (.int .i64 0),.lit (.int .i64 0),.lit (.int .i64 0),.nil,.nil,.nil,.lit (.int .i64 0),.nil]
@[simp] theorem qDg {z:Value}{a:A}:zEK z true (some a)=.tup [a,.lit (.bool true)]:=rfl
@[simp] theorem qAZ:zEK (.agg #[(.int .i64 0),(.int .i64 0),(.int .i64 0),(.int .i64 0),(.int .i64 0),(.int .i64 0),(.int .i64 0),(.int .i64 0),(.int .i64 0),(.int .i64 0),(.int .i64 0),(.int .i64 0),(.slice none 0 0),(.slice none 0 0),(.slice none 0 0)]) true none=.tup [.agg zE,.lit (.bool false)]:=by kernel_rfl
@[simp] theorem qAY:zEK (.agg #[(.int .i64 0),(.int .i64 0),(.int .i64 0),(.int .i64 0),(.int .i64 0),(.int .i64 0),(.int .i64 0),(.string ⟨#[]⟩),(.slice none 0 0),(.int .i64 0),(.int .i64 0),(.int .i64 0),(.int .i64 0),(.slice none 0 0),(.int .i64 0),(.int .i64 0),(.int .i64 0),(.int .i64 0),(.int .i64 0),(.int .i64 0),(.int .i64 0),(.int .i64 0),(.int .i64 0),(.int .i64 0),(.int .i64 0),(.int .i64 0),(.slice none 0 0),(.slice none 0 0),(.slice none 0 0),(.int .i64 0),(.slice none 0 0)]) true none=.tup [.agg zD,.lit (.bool false)]:=by kernel_rfl
@[simp] theorem qOw:zE.length=15:=rfl
@[simp] theorem qOv:zD.length=31:=rfl
def zNj {α : Type}(idf : α→Id)(enc : α→List A)(l:List α):List (List Int×A):=l.map fun x=>(zHd (idf x),.agg (enc x))
@[simp] theorem zRO {α : Type}{idf : α→Id}{enc : α→List A}{rf:Bool→Nat→Nat→A}{g:Nat→Option Nat}(hp:∀x,qF (enc x))(l:List α):((zNj idf enc l).map fun p=>(p.1,vw rf g p.2))=zNj idf enc l:=by
 simp only[zNj,jC5];refine jBp fun x _=>?_
 simp[(hp x).2]
@[simp] theorem qK6 {rf:Bool→Nat→Nat→A}{g:Nat→Option Nat}(l:List Exp):((zNj Exp.id zT l).map fun p=>(p.1,vw rf g p.2))=zNj Exp.id zT l:=zRO zGT l
@[simp] theorem qK5 {rf:Bool→Nat→Nat→A}{g:Nat→Option Nat}(l:List Dfn):((zNj Dfn.id zG l).map fun p=>(p.1,vw rf g p.2))=zNj Dfn.id zG l:=zRO zAy l
def zTS:K:=G [kO 2 0,kO 3 1,kZ 4 kz0,kMb 5 false] (Z (G [kMi 6 0] (K.block 0 (K.loop (Z (G [M 7 6,D 8 2 1,L 9 8 1,kN 10 9,kB 11 7 10 .lss] (Y 11 ks (K.exit 0))) (Z (K.block 1 (Z (K.dops [(0,0,D 14 2 1),(1,0,L 15 14 1),(2,0,M 16 6),(3,0,kX 17 15 16 31),(4,0,D 18 17 0),(5,0,J 19 18 3),(6,0,J 20 3 3),(7,0,⟨none,.eqs (some 21) false [.i,.i,.i] (kt 19) (kt 20)⟩)]) (Y 21 (G [D 22 2 1,L 23 22 1,M 24 6,kX 25 23 24 31,J 26 25 31,S 4 26 31,kMb 5 true] kr) ks))) (K.ops [M 12 6,kBi 13 12 1 .add,M 6 13])))))) (G [kb 27 kz0 [],S 4 27 31,kMb 5 false] kr))
theorem zYD:zR prog Tryz.f36.ntmps (Tryz.f36.body.getD .skip)=some zTS.erase:=by kernel_rfl
@[simp] theorem qJJ:zA prog 36=true:=by kernel_rfl
structure Bnd where
 id:Id
 n:Int
 typ:Typ
def zIx (b:Bnd):List A:=[.lit (.int .i64 b.id.a),.lit (.int .i64 b.id.b),.lit (.int .i64 b.id.c),.lit (.int .i64 b.n),.lit (.int .i64 b.typ.k),.lit (.int .i64 b.typ.id.a),.lit (.int .i64 b.typ.id.b),.lit (.int .i64 b.typ.id.c),.sl b.typ.kids.length (jV b.typ.kids)]
theorem zGS (b:Bnd):qF (zIx b):=by have h1:=yL b.typ.kids;exact⟨by simp[zIx,h1.1],fun rf g=>by simp[zIx,h1.2]⟩
def zE2 (l:List Bnd):List A:=l.flatMap zIx
theorem zHy (l:List Bnd):qF (zE2 l):=zAW zGS l
@[simp] theorem zZn (l:List Bnd):qV (zE2 l)=zE2 l:=(zHy l).1
@[simp] theorem qEa {rf g}(l:List Bnd):vwL rf g (zE2 l)=zE2 l:=(zHy l).2 _ _
@[simp] theorem qAp:zE2 []=[]:=rfl
@[simp] theorem qAo (l:List Bnd):(zE2 l).length=l.length*9:=by rw[zE2,zBC (k:=9) (fun _=>rfl)]
@[simp] theorem qG9 (d:Bnd):(zIx d).length=9:=rfl
@[simp] theorem qG8 (d:Bnd):(zIx d).take 9=zIx d:=jAj (jA _)
@[simp] theorem qCO (d:Bnd)(l:List A):(zIx d++l).take 9=zIx d:=by rw[jC (by simp)]; exact jAj (by simp)
@[simp] theorem qDw (d:Bnd):qV (zIx d)=zIx d:=(zGS d).1
@[simp] theorem qLc (d:Bnd) {rf g}:vwL rf g (zIx d)=zIx d:=(zGS d).2 _ _
theorem tmN {x k:Int}(h:0≤x):x.tmod k=x % k:=jDe h
theorem tdN {x k:Int}(h:0≤x):x.tdiv k=x / k:=Int.tdiv_eq_ediv_of_nonneg h
def zXH (ds:List Dfn):St:=[.row false 41 31 ds.length (qB ds)]
def zH3 (ds:List Dfn)(i:Id):Dfn×Bool:=match ds.find? fun d=>decide (d.id=i)with
 | some d=>(d,true)
 | none=>(Dfn.zero,false)
theorem zLL {ds:List Dfn}{i:Nat}{x:Id}(h:i<ds.length)(hn:∀d∈ds.take i,d.id≠x)(he:ds[i].id=x):(ds.find? fun d=>decide (d.id=x))=some ds[i]:=by
 have e:ds=ds.take i++ds[i]::ds.drop (i+1):=by rw[←jAu h,jC7]
 have h1:((ds.take i).find? fun d=>decide (d.id=x))=none:=jCy.2 fun d hd=>by simpa using hn d hd
 have h2:∀y,y=ds[i]→(ds.find? fun d=>decide (d.id=x))=some y:=fun y hy=>by rw[←hy]at e he;rw[e,List.find?_append,h1];simp[he]
 exact h2 _ rfl
theorem qIr (M:List Md)(ds:List Dfn)(x:Id)(hL:ds.length≤1000000):Ret prog 36 [.agg [.sl M.length (qQ M),.row 0 ds.length],.agg (zC x)] (zXH ds) (.tup [.agg (zG (zH3 ds x).1),bl (zH3 ds x).2]) (zXH ds):=by
 refine zI Tryz.func36 rfl zYD (rs:=[.cell 4 31 true,.slot 5]) (by kernel_rfl) ?_;unfold zTS;simp[zXH,zC];refine jM (S:=Nat) (fun i=>[(2,.ptr 1 0),(3,.ptr 2 0),(4,.ptr 3 0),(6,int i)]) (fun _=>[.row false 41 31 ds.length (qB ds),.box [.sl M.length (qQ M),.row 0 ds.length],.box (zC x),.box (zG Dfn.zero)]) (fun i=>i≤ds.length∧∀d∈ds.take i,d.id≠x) (fun i=>ds.length-i) 0 (by simp)
  (zO [0,1,2,3] 0 (by decide) (by simp) (by simp[zC,zG,Dfn.zero,Id.zero,Typ.zero,Exp.zero]) (by simp)) ?_
 rintro i ⟨hi,hn⟩;by_cases h:i<ds.length
 ·have hd:=zA5 h;have hb3:i*31+3≤ds.length*31:=by omega
  have hb31:i*31+31≤ds.length*31:=by omega
  have hw:=zA0 i (by omega);by_cases he:ds[i].id=x
  ·have hv:zH3 ds x=(ds[i],true):=by unfold zH3; rw[zLL h hn he]
   have he3:zFi ds[i].id.a ds[i].id.b ds[i].id.c x.a x.b x.c=true:=by rw[zAS]; exact decide_eq_true he
   simp[h,hd,zC,zG,he3,hb3,hb31];exact zH [0] 0 (by decide) (by simp) (by simp) (by simp[hv,zG])
  ·have he3:zFi ds[i].id.a ds[i].id.b ds[i].id.c x.a x.b x.c=false:=by rw[zAS]; exact decide_eq_false he
   simp[h,hd,zC,zG,he3,hb3,hb31];exact zP (i+1) ⟨h,fun d hd'=>by
    rw[jAa h]at hd';rcases jAb.1 hd' with hd' | hd'
    ·exact hn d hd'
    ·rw[jAn.1 hd']; exact he⟩ (by omega) (zO [0,1,2,3] 0 (by decide) (by simp) (by simp[zC,zG,Dfn.zero,Id.zero,Typ.zero,Exp.zero]) (by simp[hw]))
 ·have:i=ds.length:=by omega
  subst this;rw[jAv]at hn;have hv:zH3 ds x=(Dfn.zero,false):=by unfold zH3;rw[jCy.2 fun d hd=>by simpa using hn d hd]
  simp[zG,Dfn.zero,Id.zero,Typ.zero,Exp.zero]
  first | exact fun _=>zH [0] 0 (by decide) (by simp) (by simp) (by simp[hv,zG,Dfn.zero,Id.zero,Typ.zero,Exp.zero]) | exact zH [0] 0 (by decide) (by simp) (by simp) (by simp[hv,zG,Dfn.zero,Id.zero,Typ.zero,Exp.zero])
theorem zXD (M:List Md)(ds:List Dfn)(x:Id)(hL:ds.length≤1000000):Ret prog 36 [.agg [.sl M.length (qQ M),.sl ds.length (qB ds)],.agg (zC x)] [] (.tup [.agg (zG (zH3 ds x).1),bl (zH3 ds x).2]) []:=by
 refine zI Tryz.func36 rfl zYD (rs:=[.cell 4 31 true,.slot 5]) (by kernel_rfl) ?_;unfold zTS;simp[zXH,zC];refine jM (S:=Nat) (fun i=>[(2,.ptr 0 0),(3,.ptr 1 0),(4,.ptr 2 0),(6,int i)]) (fun _=>[.box [.sl M.length (qQ M),.sl ds.length (qB ds)],.box (zC x),.box (zG Dfn.zero)]) (fun i=>i≤ds.length∧∀d∈ds.take i,d.id≠x) (fun i=>ds.length-i) 0 (by simp)
  (zO [0,1,2] 0 (by decide) (by simp) (by simp[zC,zG,Dfn.zero,Id.zero,Typ.zero,Exp.zero]) (by simp)) ?_
 rintro i ⟨hi,hn⟩;by_cases h:i<ds.length
 ·have hd:=zA5 h;have hb3:i*31+3≤ds.length*31:=by omega
  have hb31:i*31+31≤ds.length*31:=by omega
  have hw:=zA0 i (by omega);by_cases he:ds[i].id=x
  ·have hv:zH3 ds x=(ds[i],true):=by unfold zH3; rw[zLL h hn he]
   have he3:zFi ds[i].id.a ds[i].id.b ds[i].id.c x.a x.b x.c=true:=by rw[zAS]; exact decide_eq_true he
   simp[h,hd,zC,zG,he3,hb3,hb31];intro hl; exact zH [] 0 (by decide) (by simp) (by simp) (by simp[hv,zG])
  ·have he3:zFi ds[i].id.a ds[i].id.b ds[i].id.c x.a x.b x.c=false:=by rw[zAS]; exact decide_eq_false he
   simp[h,hd,zC,zG,he3,hb3,hb31];intro hl; exact zP (i+1) ⟨h,fun d hd'=>by
    rw[jAa h]at hd';rcases jAb.1 hd' with hd' | hd'
    ·exact hn d hd'
    ·rw[jAn.1 hd']; exact he⟩ (by omega) (zO [0,1,2] 0 (by decide) (by simp) (by simp[zC,zG,Dfn.zero,Id.zero,Typ.zero,Exp.zero]) (by simp[hw]))
 ·have:i=ds.length:=by omega
  subst this;rw[jAv]at hn;have hv:zH3 ds x=(Dfn.zero,false):=by unfold zH3;rw[jCy.2 fun d hd=>by simpa using hn d hd]
  simp[zG,Dfn.zero,Id.zero,Typ.zero,Exp.zero]
  first | exact fun _=>zH [] 0 (by decide) (by simp) (by simp) (by simp[hv,zG,Dfn.zero,Id.zero,Typ.zero,Exp.zero]) | exact zH [] 0 (by decide) (by simp) (by simp) (by simp[hv,zG,Dfn.zero,Id.zero,Typ.zero,Exp.zero])
def zNz {α : Type}(idf : α→Id)(D:List α)(c : α→Bool)(met:List Nat):List Id:=met.filterMap fun i=>(D[i]?).bind fun x=>if c x then some (idf x) else none
theorem zT7 {α : Type}{idf : α→Id}{D:List α}{c : α→Bool}{met:List Nat}{i:Nat}{x : α}(h:D[i]?=some x):zNz idf D c (met++[i])=if c x then zNz idf D c met++[idf x] else zNz idf D c met:=by simp only[zNz,List.filterMap_append,List.filterMap_cons,List.filterMap_nil,h,Option.bind_some];cases c x<;>simp
theorem zOv {α β : Type}{f g : α→Option β}:∀{l:List α},(∀x∈l,f x=g x)→l.filterMap f=l.filterMap g
 | [],_=>rfl
 | x::l,h=>by rw[List.filterMap_cons,List.filterMap_cons,h x (jAk ..),zOv fun y hy=>h y (jAh _ hy)]
theorem zRb {α : Type}{idf : α→Id}{c : α→Bool}(D:List α):zNz idf D c (List.range D.length)=(D.filter c).map idf:=by
 induction D using zGw with
 | nil=>rfl
 | snoc D y ih =>
  have h1:zNz idf (D++[y]) c (List.range D.length)=zNz idf D c (List.range D.length):=by
   unfold zNz;refine zOv fun i hi=>?_
   rw[jAd (jCi.1 hi)]
  rw[jA5,jC0,List.range_succ,zT7 (x:=y) (by simp),h1,ih,List.filter_append,jCs];cases hc:c y<;>simp[hc]
structure Met (n:Nat)(met:List Nat):Prop where
 nd:met.Nodup
 lt:∀i∈met,i<n
theorem Met.snoc {n:Nat}{met:List Nat}(h:Met n met){i:Nat}(hi:i<n)(hn:i∉met):Met n (met++[i]):=by
 refine⟨?_,fun j hj=>?_⟩
 ·rw[jCh];refine⟨h.nd,by simp,fun a ha b hb=>?_⟩;simp only[jAn]at hb;subst hb;exact fun e=>hn (e▸ha)
 ·rcases jAb.1 hj with hj | hj
  ·exact h.lt j hj
  ·rw[jAn.1 hj]; exact hi
theorem Met.le {n:Nat}{met:List Nat}(h:Met n met):met.length≤n:=by
 have:=h.nd.length_le_of_subset (l₂:=List.range n) fun i hi=>jCi.2 (h.lt i hi)
 simpa using this
theorem Met.perm {n:Nat}{met:List Nat}(h:Met n met)(ha:∀i,i<n→i∈met):met.Perm (List.range n) :=
 (List.perm_ext_iff_of_nodup h.nd List.nodup_range).2 fun i=>⟨fun hi=>jCi.2 (h.lt i hi),fun hi=>ha i (jCi.1 hi)⟩
theorem Met.sel {α : Type}{idf : α→Id}{c : α→Bool}{D:List α}{met:List Nat}(h:Met D.length met)(ha:∀i,i<D.length→i∈met):(zNz idf D c met).Perm ((D.filter c).map idf):=by rw[←zRb];exact(h.perm ha).filterMap _
@[simp] theorem qHE {α : Type}{idf : α→Id}{enc : α→List A}{D:List α}:(zNj idf enc D).length=D.length:=by simp[zNj]
structure Hd where
 id:Id
 kind:Int
 slots:List Slt
 res:Typ
def Dfn.hd (d:Dfn):Hd:=⟨d.id,d.kind,d.slots,d.res⟩
abbrev zAY:Typ:=.mk 0 Id.zero []
abbrev zAd:Typ:=.mk 1 Id.zero []
abbrev zCQ (t:Typ):Typ:=.mk 2 Id.zero [t]
abbrev jZ (d:Id):Typ:=.mk 3 d []
inductive TyOk (hs:List Hd):Nat→Typ→Prop
 | int (r:Nat):TyOk hs r zAY
 | bool (r:Nat):TyOk hs r zAd
 | list (r:Nat) (t:Typ) (h:TyOk hs r t):TyOk hs (r+1) (zCQ t)
 | dfn (r k:Nat) (h:k<hs.length) (h1:∀(j:Nat) (hj:j<k),hs[j].id≠hs[k].id) (h2:hs[k].kind=0∨hs[k].kind=1∧0<hs[k].slots.length) (h3:hs[k].slots.length≤6)
  (h4:∀s∈hs[k].slots,TyOk hs r s.typ):TyOk hs (r+1) (jZ hs[k].id)
theorem TyOk.mono {hs:List Hd}{r r':Nat}{t:Typ}(h:TyOk hs r t)(hr:r≤r'):TyOk hs r' t:=by
 induction h generalizing r' with
 | int r=>exact .int _
 | bool r=>exact .bool _
 | list r t h ih =>
  obtain⟨q,rfl⟩:∃q,r'=q+1:=⟨r'-1,by omega⟩;exact .list _ _ (ih (by omega))
 | dfn r k h h1 h2 h3 h4 ih =>
  obtain⟨q,rfl⟩:∃q,r'=q+1:=⟨r'-1,by omega⟩;exact .dfn _ k h h1 h2 h3 fun s hs'=>ih s hs' (by omega)
def zEm (env:List Bnd)(x:Id)(n:Int):Option Typ:=(env.reverse.find? fun b=>decide (b.id=x)&&decide (b.n=n)).map (·.typ)
inductive WT (hs:List Hd)(own:Int):List Bnd→Exp→Typ→Prop
 | int (env i n) (h1 : -1099511627776≤n) (h2:n≤1099511627776):WT hs own env (.mk i 0 n Id.zero Typ.zero [] []) zAY
 | bool (env i n) (h:n=0∨n=1):WT hs own env (.mk i 1 n Id.zero Typ.zero [] []) zAd
 | var (env i n x t) (h:zEm env x n=some t):WT hs own env (.mk i 2 n x Typ.zero [] []) t
 | call (env i) (k:Nat) (h:k<hs.length) (ks) (ho:(k:Int)<own) (hk:hs[k].kind=2) (hl:ks.length=hs[k].slots.length) (hw:∀(j:Nat) (hj:j<ks.length),WT hs own env ks[j] (hs[k].slots[j]'(hl▸hj)).typ) :
  WT hs own env (.mk i 3 0 hs[k].id Typ.zero ks []) hs[k].res
 | arith (env i n a b) (h1:0≤n) (h2:n≤4) (ha:WT hs own env a zAY) (hb:WT hs own env b zAY):WT hs own env (.mk i 4 n Id.zero Typ.zero [a,b] []) zAY
 | less (env i a b) (ha:WT hs own env a zAY) (hb:WT hs own env b zAY):WT hs own env (.mk i 4 5 Id.zero Typ.zero [a,b] []) zAd
 | same (env i a b u) (ha:WT hs own env a u) (hb:WT hs own env b u):WT hs own env (.mk i 4 6 Id.zero Typ.zero [a,b] []) zAd
 | andor (env i n a b) (h:n=7∨n=8) (ha:WT hs own env a zAd) (hb:WT hs own env b zAd):WT hs own env (.mk i 4 n Id.zero Typ.zero [a,b] []) zAd
 | not (env i a) (ha:WT hs own env a zAd):WT hs own env (.mk i 4 9 Id.zero Typ.zero [a] []) zAd
 | join (env i a b t) (ha:WT hs own env a (zCQ t)) (hb:WT hs own env b (zCQ t)):WT hs own env (.mk i 4 10 Id.zero Typ.zero [a,b] []) (zCQ t)
 | len (env i a t) (ha:WT hs own env a (zCQ t)):WT hs own env (.mk i 4 11 Id.zero Typ.zero [a] []) zAY
 | ite (env i a b c t) (ha:WT hs own env a zAd) (hb:WT hs own env b t) (hc:WT hs own env c t):WT hs own env (.mk i 5 0 Id.zero Typ.zero [a,b,c] []) t
 | lets (env i a b u t ns) (hn:ns.length≤10) (ha:WT hs own env a u) (hb:WT hs own (env++[⟨i,0,u⟩]) b t):WT hs own env (.mk i 6 0 Id.zero Typ.zero [a,b] ns) t
 | record (env i) (k:Nat) (h:k<hs.length) (ks) (hk:hs[k].kind=0) (hl:ks.length=hs[k].slots.length) (hw:∀(j:Nat) (hj:j<ks.length),WT hs own env ks[j] (hs[k].slots[j]'(hl▸hj)).typ) :
  WT hs own env (.mk i 7 0 hs[k].id Typ.zero ks []) (jZ hs[k].id)
 | field (env i) (k:Nat) (h:k<hs.length) (j:Nat) (hj:j<hs[k].slots.length) (a) (hk:hs[k].kind=0) (ha:WT hs own env a (jZ hs[k].id)):WT hs own env (.mk i 8 j hs[k].id Typ.zero [a] []) hs[k].slots[j].typ
 | case (env i) (k:Nat) (h:k<hs.length) (j:Nat) (hj:j<hs[k].slots.length) (a) (hk:hs[k].kind=1) (ha:WT hs own env a hs[k].slots[j].typ):WT hs own env (.mk i 9 j hs[k].id Typ.zero [a] []) (jZ hs[k].id)
 | mtch (env i) (k:Nat) (h:k<hs.length) (a ks t ns) (hn:ns.length≤10) (hk:hs[k].kind=1) (hl:ks.length=hs[k].slots.length) (ha:WT hs own env a (jZ hs[k].id))
  (hw:∀(j:Nat) (hj:j<ks.length),WT hs own (env++[⟨i,j,(hs[k].slots[j]'(hl▸hj)).typ⟩]) ks[j] t):WT hs own env (.mk i 10 0 hs[k].id Typ.zero (a::ks) ns) t
 | list (env i t ks) (hw:∀(j:Nat) (hj:j<ks.length),WT hs own env ks[j] t):WT hs own env (.mk i 11 0 Id.zero t ks []) (zCQ t)
 | fold (env i l s b u t ns) (hn:ns.length≤10) (hl:WT hs own env l (zCQ u)) (hs':WT hs own env s t) (hb:WT hs own (env++[⟨i,0,u⟩]++[⟨i,1,t⟩]) b t):WT hs own env (.mk i 12 0 Id.zero Typ.zero [l,s,b] ns) t
mutual
def tmps:Exp→List Int
 | .mk i _ _ _ _ ks _=>zId ks++[i.c]
def zId:List Exp→List Int
 | []=>[]
 | e::l=>tmps e++zId l
end
mutual
def Exp.num0:Exp→Prop
 | .mk i _ _ _ _ ks _=>(i.a=0∧i.b=0)∧zPc ks
def zPc:List Exp→Prop
 | []=>True
 | e::l=>e.num0∧zPc l
end
theorem zMp:∀l:List Exp,zPc l↔∀e∈l,e.num0
 | []=>by simp[zPc]
 | e::l=>by simp[zPc,zMp l]
structure Seg (lo hi:Int)(l:List Int):Prop where
 nd:l.Nodup
 rng:∀x∈l,lo≤x∧x<hi
theorem Seg.append {a b c:Int}{l l':List Int}(h:Seg a b l)(h':Seg b c l')(hab:a≤b)(hbc:b≤c):Seg a c (l++l'):=by
 refine⟨jCh.2 ⟨h.nd,h'.nd,fun x hx y hy e=>?_⟩,fun x hx=>?_⟩
 ·have h1:=h.rng x hx;have h2:=h'.rng y hy;omega
 ·rcases jAb.1 hx with hx | hx
  ·have:=h.rng x hx; omega
  ·have:=h'.rng x hx; omega
theorem Seg.perm {a b:Int}{l l':List Int}(h:Seg a b l)(hp:l.Perm l'):Seg a b l':=⟨hp.nodup_iff.1 h.nd,fun x hx=>h.rng x (hp.mem_iff.2 hx)⟩
theorem Seg.one (a:Int):Seg a (a+1) [a]:=⟨by simp,fun x hx=>by simp at hx; omega⟩
theorem Seg.nil {a b:Int}:Seg a b []:=⟨by simp,fun x hx=>by simp at hx⟩
theorem Seg.mono {a b a' b':Int}{l:List Int}(h:Seg a b l)(h1:a'≤a)(h2:b≤b'):Seg a' b' l:=⟨h.nd,fun x hx=>by have:=h.rng x hx; omega⟩
structure Adv (m m':Mk)(c:Int):Prop where
 mods:m'.mods=m.mods
 defs:m'.defs=m.defs
 l:m'.l=m.l
 own:m'.own=m.own
 home:m'.home=m.home
 at1:m.at_≤m'.at_
 at2:m'.at_≤m.at_+c
 temp1:m.temp≤m'.temp
 temp2:m'.temp≤m.temp+c
 left1:m.left-c≤m'.left
 left2:m'.left≤m.left
 name1:m.name≤m'.name
 name2:m'.name≤m.name+c
theorem Adv.trans {m m1 m2:Mk}{c c':Int}(h:Adv m m1 c)(k:Adv m1 m2 c'):Adv m m2 (c+c'):=by obtain⟨h1,h2,h3,h4,h5,h6,h7,h8,h9,h10,h11,h12,h13⟩:=h;obtain⟨k1,k2,k3,k4,k5,k6,k7,k8,k9,k10,k11,k12,k13⟩:=k;exact⟨k1.trans h1,k2.trans h2,k3.trans h3,k4.trans h4,k5.trans h5,by omega,by omega,by omega,by omega,by omega,by omega,by omega,by omega⟩
theorem Adv.mono {m m1:Mk}{c c':Int}(h:Adv m m1 c)(hc:c≤c'):Adv m m1 c':=by obtain⟨h1,h2,h3,h4,h5,h6,h7,h8,h9,h10,h11,h12,h13⟩:=h;exact⟨h1,h2,h3,h4,h5,by omega,by omega,by omega,by omega,by omega,by omega,by omega,by omega⟩
structure Lim (m:Mk)(c:Int):Prop where
 at1:0≤m.at_
 at2:m.at_+c≤1000000000000000
 temp1:0≤m.temp
 temp2:m.temp+c≤1000000000000000
 left1 : -1000000000000000≤m.left-c
 left2:m.left≤1000000000000000
 name1:0≤m.name
 name2:m.name+c≤1000000000000000
theorem Lim.adv {m m1:Mk}{c c':Int}(h:Lim m (c+c'))(k:Adv m m1 c):Lim m1 c':=by obtain⟨h1,h2,h3,h4,h5,h6,h7,h8⟩:=h;obtain⟨k1,k2,k3,k4,k5,k6,k7,k8,k9,k10,k11,k12,k13⟩:=k;exact⟨by omega,by omega,by omega,by omega,by omega,by omega,by omega,by omega⟩
theorem Lim.mono {m:Mk}{c c':Int}(h:Lim m c)(hc:c'≤c):Lim m c':=by obtain⟨h1,h2,h3,h4,h5,h6,h7,h8⟩:=h;exact⟨by omega,by omega,by omega,by omega,by omega,by omega,by omega,by omega⟩
structure Cx (hs:List Hd)(R:Nat)(m:Mk):Prop where
 heads:m.defs.map Dfn.hd=hs
 len:hs.length≤100
 len0:0<hs.length
 mods:0<m.mods.length
 nums:∀x∈m.l,w64 x=x
 own:m.own≤1000
 typs:∀(k:Nat) (h:k<hs.length),hs[k].kind=0∨hs[k].kind=1→TyOk hs R (jZ hs[k].id)
 slots:∀(k:Nat) (h:k<hs.length),hs[k].slots.length≤6∧∀s∈hs[k].slots,TyOk hs R s.typ
theorem Cx.adv {hs:List Hd}{R:Nat}{m m':Mk}{c:Int}(h:Cx hs R m)(k:Adv m m' c):Cx hs R m':=by obtain⟨h1,h2,h3,h4,h5,h6,h7,h8⟩:=h;exact⟨by rw[k.defs]; exact h1,h2,h3,by rw[k.mods]; exact h4,by rw[k.l]; exact h5,by rw[k.own]; exact h6,h7,h8⟩
theorem Cx.dlen {hs:List Hd}{R:Nat}{m:Mk}(h:Cx hs R m):m.defs.length=hs.length:=by rw[←h.heads,jB5]
theorem Cx.get {hs:List Hd}{R:Nat}{m:Mk}(h:Cx hs R m){k:Nat}(hk:k<m.defs.length):hs[k]'(h.dlen▸hk)=m.defs[k].hd:=by obtain⟨rfl,_⟩:=h;simp
structure EnvOk (hs:List Hd)(R:Nat)(temp:Int)(env:List Bnd):Prop where
 typs:∀b∈env,TyOk hs R b.typ
 nd:env.Pairwise fun b c=>¬(b.id=c.id∧b.n=c.n)
 new:∀b∈env,b.id.b=0→b.id.c<temp
theorem EnvOk.mono {hs:List Hd}{R:Nat}{temp temp':Int}{env:List Bnd}(h:EnvOk hs R temp env)(ht:temp≤temp'):EnvOk hs R temp' env:=⟨h.typs,h.nd,fun b hb h0=>by have:=h.new b hb h0; omega⟩
theorem EnvOk.snoc {hs:List Hd}{R:Nat}{temp:Int}{env:List Bnd}(h:EnvOk hs R temp env)(c n:Int)(t:Typ)(ht:TyOk hs R t)(hc:∀b∈env,b.id=⟨0,0,c⟩→b.n≠n)(hct:c<temp):EnvOk hs R temp (env++[⟨⟨0,0,c⟩,n,t⟩]):=by
 refine⟨fun b hb=>?_,?_,fun b hb h0=>?_⟩
 ·rcases jAb.1 hb with hb | hb
  ·exact h.typs b hb
  ·rw[jAn.1 hb]; exact ht
 ·rw[jCq];refine⟨h.nd,by simp,fun b hb c' hc'=>?_⟩;rw[jAn.1 hc'];exact fun e=>hc b hb e.1 e.2
 ·rcases jAb.1 hb with hb | hb
  ·exact h.new b hb h0
  ·rw[jAn.1 hb]; exact hct
def qT (l:List Dfn)(id:Id):Option Dfn:=l.find? fun d=>decide (d.id=id)
theorem zGZ (d:Dfn)(l:List Dfn)(id:Id):qT (d::l) id=if d.id=id then some d else qT l id:=by unfold qT;rw[jD5];by_cases h:d.id=id<;>simp[h]
theorem zQe (l:List Dfn)(id:Id):zH3 l id=((qT l id).getD .zero,(qT l id).isSome):=by unfold zH3 qT;cases l.find? fun d=>decide (d.id=id)<;>rfl
def zY3:K:=G [kO 2 0,kMb 3 false] (G [D 4 2 0,J 5 4 3,J 6 1 3,⟨none,.eqs (some 7) false [.i,.i,.i] (kt 5) (kt 6)⟩,M 3 7] kr)
theorem qGj:zR prog Tryz.f144.ntmps (Tryz.f144.body.getD .skip)=some zY3.erase:=by kernel_rfl
@[simp] theorem qJU:zA prog 144=true:=by kernel_rfl
def zY5:K:=G [kMi 4 0] (Z (G [M 6 0,kN 7 6,kMi 8 0] (K.block 0 (K.loop (G [kB 9 8 7 .lss] (Z (Y 9 ks (K.exit 0)) (Z (K.block 1 (G [M 10 8,M 5 10] (G [M 11 1,M 12 0,M 13 5,kX 14 12 13 31,J 15 14 31,⟨none,.call (some 16) (kt 11) [(kt 15)]⟩] (Y 16 (G [M 17 5,M 4 17] kr) ks)))) (K.ops [kBi 18 8 1 .add,M 8 18]))))))) (G [⟨none,.mov (some 4) (kc (-1))⟩] kr))
theorem qGl:zR prog Tryz.f143.ntmps (Tryz.f143.body.getD .skip)=some zY5.erase:=by kernel_rfl
@[simp] theorem qJW:zA prog 143=true:=by kernel_rfl
def zY2:K:=G [kO 2 0,kO 3 1,kZ 4 kz0,kMb 5 false] (G [D 7 2 1,L 8 7 1,⟨none,.clo (some 9) 144 [] [(kt 3)]⟩,kC 10 143 [(kt 8),(kt 9)],M 6 10] (Z (G [M 11 6,kBi 12 11 0 .lss] (Y 12 (G [kb 13 kz0 [],S 4 13 31,kMb 5 false] kr) ks)) (G [D 14 2 1,L 15 14 1,M 16 6,kX 17 15 16 31,J 18 17 31,S 4 18 31,kMb 5 true] kr)))
theorem qGi:zR prog Tryz.f96.ntmps (Tryz.f96.body.getD .skip)=some zY2.erase:=by kernel_rfl
@[simp] theorem qJT:zA prog 96=true:=by kernel_rfl
@[simp] theorem qNg:zA prog 169=true:=by kernel_rfl
@[simp] theorem qNh:zA prog 139=true:=by kernel_rfl
def qFf:K:=G [kO 2 0,kO 3 1,kMb 4 false] (Z (G [kMi 5 1] (K.block 0 (K.loop (Z (G [M 8 5,kBi 9 8 24 .leq] (Y 9 ks (K.exit 0))) (Z (K.block 1 (G [D 12 3 0,L 13 12 1] (K.block 2 (Z (G [kQi 15 13 0 false,M 14 15] (Y 14 ks (K.ops [kQi 16 13 1 false,M 14 16]))) (Y 14 (G [D 17 3 1,J 18 17 3,kb 19 [ki,ki,ki] [],⟨none,.eqs (some 20) false [.i,.i,.i] (kt 18) (kt 19)⟩,M 21 20,T 21 true (D 22 3 4),T 21 true (L 23 22 1),T 21 true (kN 24 23),T 21 true (kQi 25 24 0 false),kPf 26 21 25,M 4 26] kr) (G [kQi 28 13 3 false,M 27 28] (Y 27 (G [J 30 2 2,D 31 3 1,J 32 31 3,kC 33 96 [(kt 30),(kt 32)],M 29 33,kE 34 29 0,kE 35 29 1,kZ 6 kz0,S 6 34 31,M 7 35] (G [M 36 7,M 37 36,T 37 true (D 38 6 3),T 37 true (L 39 38 1),T 37 true (kQi 40 39 0 false),T 37 true (M 41 40),T 41 false (D 42 6 3),T 41 false (L 43 42 1),T 41 false (kQi 44 43 1 false),T 37 true (kPt 45 41 44),kPf 46 37 45,M 47 46,T 47 true (D 48 3 4),T 47 true (L 49 48 1),T 47 true (kN 50 49),T 47 true (kQi 51 50 0 false),kPf 52 47 51,M 4 52] kr)) (G [kQi 54 13 2 false,M 53 54] (Y 53 (Z (G [D 55 3 1,J 56 55 3,kb 57 [ki,ki,ki] [],⟨none,.eqs (some 58) true [.i,.i,.i] (kt 56) (kt 57)⟩,M 59 58,T 59 false (D 60 3 4),T 59 false (L 61 60 1),T 59 false (kN 62 61),T 59 false (kQi 63 62 1 true),kPt 64 59 63] (Y 64 (G [kMb 4 false] kr) ks)) (K.ops [D 65 3 4,L 66 65 1,kXi 67 66 5 0,J 68 67 5,S 3 68 5])) (G [kMb 4 false] kr)))))))))) (K.ops [M 10 5,kBi 11 10 1 .add,M 5 11])))))) (G [kMb 4 false] kr))
theorem qMl:zR prog Tryz.f114.ntmps (Tryz.f114.body.getD .skip)=some qFf.erase:=by kernel_rfl
@[simp] theorem qN4:zA prog 114=true:=by kernel_rfl
theorem zWJ (d:Dfn)(id:Id):Ret prog 144 [.agg (zG d),.ptr 0 0] [.box (zC id)] (bl (decide (d.id=id))) [.box (zC id)]:=by refine zI Tryz.func144 rfl qGj (rs:=[.slot 3]) (by kernel_rfl) ?_;unfold zY3;simp[zG,zC,zWS];exact zH [0] 0 (by simp) (by simp) (by simp) (by simp)
def zLq:List Dfn→Id→Nat→Int
 | [],_,_=>-1
 | d::l,id,n=>if d.id=id then n else zLq l id (n+1)
theorem zMh:∀(l:List Dfn) (id:Id) (n:Nat),(qT l id=none∧zLq l id n = -1)∨∃(i:Nat) (h:i<l.length),zLq l id n=(n+i:Nat)∧qT l id=some l[i]
 | [],id,n=>.inl ⟨rfl,rfl⟩
 | d::l,id,n=>by
  simp only[zGZ,zLq];by_cases hd:d.id=id
  ·exact .inr ⟨0,by simp,by simp[hd],by simp[hd]⟩
  ·simp only[hd,if_false];rcases zMh l id (n+1)with h | ⟨i,hi,h1,h2⟩
   ·exact .inl h
   ·exact .inr ⟨i+1,by simpa using hi,by rw[h1]; congr 1; omega,by simpa using h2⟩
theorem zNe (l:List Dfn)(id:Id):Ret prog 143 [.sl l.length (qB l),.clo 144 [] [.ptr 0 0]] [.box (zC id)] (int (zLq l id 0)) [.box (zC id)]:=by
 refine zI Tryz.func143 rfl qGl (rs:=[.slot 4]) (by kernel_rfl) ?_;unfold zY5;simp;intro hl;refine jM (S:=Nat) (fun i=>[(0,.sl l.length (qB l)),(1,.clo 144 [] [.ptr 0 0]),(6,.sl l.length (qB l)),(7,int l.length),(8,int i)]) (fun s=>[.box (zC id)]) (fun i=>i≤l.length∧zLq l id 0=zLq (l.drop i) id i) (fun i=>l.length-i) 0 (by simp)
  (zO [0] 0 (by simp) (by simp) (by simp[zC]) (by simp)) ?_
 rintro i ⟨hi,ho⟩;by_cases h:i<l.length
 ·have hd:l.drop i=l[i]::l.drop (i+1):=jAu h;simp[h,zA5 h];refine jJ (zWJ l[i] id) [0] (by simp) (by simp) (by simp) ?_;simp;refine qR (fun h'=>?_) (fun h'=>?_)<;>simp at h'
  ·simp;exact zH [0] 0 (by simp) (by simp) (by simp) (by rw[ho,hd]; simp[zLq,h'])
  ·simp;exact zP (i+1) ⟨h,by rw[ho,hd]; simp[zLq,h']⟩ (by omega) (zO [0] 0 (by simp) (by simp) (by simp) (by simp[qP h hl]))
 ·have hi:i=l.length:=by omega
  subst hi;simp;exact zH [0] 0 (by simp) (by simp) (by simp) (by rw[ho]; simp[zLq])
def zBL (p:Prg)(id:Id):A:=.tup [.agg (zG ((qT p.defs id).getD .zero)),bl (qT p.defs id).isSome]
theorem zDn (p:Prg)(id:Id):Ret prog 96 [.agg (zM p),.agg (zC id)] [] (zBL p id) []:=by
 refine zI Tryz.func96 rfl qGi (rs:=[.cell 4 31 true,.slot 5]) (by kernel_rfl) ?_;unfold zY2;simp[zM];refine jJ (zNe p.defs id) [1] (by simp) (by simp) (by simp) ?_;simp;rcases zMh p.defs id 0 with ⟨h1,h2⟩ | ⟨i,hi,h1,h2⟩
 ·simp[h2];exact zB 0 (by simp[zBL,h1,zG,Dfn.zero,Id.zero,Typ.zero,Exp.zero])
 ·have hn:¬((i:Int)<0):=by omega
  simp[h1,hn,hi,zA5 hi];exact zB 0 (by simp[zBL,h2])
theorem zT1 (p:Prg)(hL:p.defs.length≤1000000)(id:Id):Ret prog 36 [.agg (zM p),.agg (zC id)] [] (zBL p id) []:=by have h:=zXD p.mods p.defs id hL;rw[zQe]at h;exact h
def zFI:Option Dfn→Bool
 | some d=>decide (d.kind=0∨d.kind=1)
 | none=>false
def yQ (p:Prg):Nat→Typ→Bool
 | 0,_=>false
 | n+1,t=>if t.k=2 then (match t.kids with
  | [x]=>decide (t.id=Id.zero)&&yQ p n x
  | _=>false) else if t.kids≠[] then false else if t.k=3 then zFI (qT p.defs t.id) else decide (t.id=Id.zero)&&decide (t.k=0∨t.k=1)
def validT (p:Prg)(t:Typ):Bool:=yQ p 24 t
theorem zLa (p:Prg)(t0:Typ):Ret prog 114 [.agg (zM p),.agg (zU t0)] [] (bl (validT p t0)) []:=by
 refine zI Tryz.func114 rfl qMl (rs:=[.slot 4]) (by kernel_rfl) ?_;unfold qFf;simp[zM];refine jM (S:=Nat×Typ) (fun s=>[(2,.ptr 0 0),(3,.ptr 1 0),(5,int s.1)]) (fun s=>[.box (zM p),.box (zU s.2)]) (fun s=>1≤s.1∧s.1≤25∧validT p t0=yQ p (25-s.1) s.2) (fun s=>25-s.1) (1,t0) (by simp[validT])
  (zO [0,1] 0 (by simp) (by simp) (by simp[zM]) (by simp)) ?_
 rintro⟨i,t⟩ ⟨hi0,hi,ho⟩;simp only at hi0 hi ho;by_cases h:i≤24
 ·have hi24:(i:Int)≤24:=by omega
  obtain⟨n,hn⟩:∃n,25-i=n+1:=⟨24-i,by omega⟩;have hn':25-(i+1)=n:=by omega
  have hw:=zA0 i (by omega);rw[hn]at ho;cases t with
  | mk k id kids =>
  by_cases h2:k=2
  ·subst h2;by_cases hid:id=Id.zero
   ·subst hid;rcases kids with _ | ⟨x,_ | ⟨y,l⟩⟩
    ·simp[zU,zM,hi24];exact zB 0 (by rw[ho]; simp[yQ])
    ·simp[zU,zM,hi24];intro _;refine zP (i+1,x) ⟨by simp,by simp only; omega,?_⟩ (by simp only; omega) (zO [0,1] 0 (by simp) (by simp) (by simp[zM,zU,zD8]) (by simp[hw]));simp only;rw[ho,hn'];simp[yQ]
    ·have h1:¬((l.length:Int)+1+1=1):=by omega
     simp[zU,zM,hi24,h1];exact fun _=>zB 0 (by rw[ho]; simp[yQ])
   ·have hv:yQ p (n+1) (.mk 2 id kids)=false:=by simp only[yQ,Typ.k_mk,Typ.id_mk,Typ.kids_mk,if_true];split<;>simp[hid]
    simp[zU,zM,hi24,hid];exact zB 0 (by rw[ho,hv]; simp)
  by_cases h3:k=3
  ·subst h3;simp[zU,zM,hi24];refine qD (zDn p id) (by simp[zM,zC]) (by simp[zBL]) ?_;cases hf:qT p.defs id with
   | none =>
    have hv:yQ p (n+1) (.mk 3 id kids)=false:=by cases kids<;>simp[yQ,hf,zFI]
    simp[zBL,hf,zG,Dfn.zero,Id.zero,Typ.zero,Exp.zero];exact zB 0 (by rw[ho,hv]; simp)
   | some f =>
    by_cases h0:f.kind=0∨f.kind=1
    ·have hv:yQ p (n+1) (.mk 3 id kids)=decide (kids.length=0):=by cases kids<;>simp[yQ,hf,zFI,h0]
     rcases h0 with h0 | h0
     ·simp[zBL,hf,zG,h0];exact fun _=>zB 0 (by rw[ho,hv]; simp)
     ·simp[zBL,hf,zG,h0];exact fun _=>zB 0 (by rw[ho,hv]; simp)
    ·have hv:yQ p (n+1) (.mk 3 id kids)=false:=by cases kids<;>simp[yQ,hf,zFI,h0]
     have g0:f.kind≠0:=fun e=>h0 (.inl e)
     have g1:f.kind≠1:=fun e=>h0 (.inr e)
     simp[zBL,hf,zG,g0,g1];exact zB 0 (by rw[ho,hv]; simp)
  ·by_cases h0:k=0∨k=1
   ·by_cases hid:id=Id.zero
    ·subst hid;have hv:yQ p (n+1) (.mk k Id.zero kids)=decide (kids.length=0):=by cases kids<;>simp[yQ,h2,h3,h0]
     rcases h0 with rfl | rfl
     ·simp[zU,zM,hi24];exact fun _=>zB 0 (by rw[ho,hv]; simp)
     ·simp[zU,zM,hi24];exact fun _=>zB 0 (by rw[ho,hv]; simp)
    ·have hv:yQ p (n+1) (.mk k id kids)=false:=by simp only[yQ,Typ.k_mk,Typ.id_mk,Typ.kids_mk,h2,h3,if_false];simp[hid]
     rcases h0 with rfl | rfl
     ·simp[zU,zM,hi24,hid];exact zB 0 (by rw[ho,hv]; simp)
     ·simp[zU,zM,hi24,hid];exact zB 0 (by rw[ho,hv]; simp)
   ·have hv:yQ p (n+1) (.mk k id kids)=false:=by simp only[yQ,Typ.k_mk,Typ.id_mk,Typ.kids_mk,h2,h3,if_false];simp[h0]
    have g0:k≠0:=fun e=>h0 (.inl e)
    have g1:k≠1:=fun e=>h0 (.inr e)
    simp[zU,zM,hi24,g0,g1,h2,h3];exact zB 0 (by rw[ho,hv]; simp)
 ·have:i=25:=by omega
  subst this;simp;exact zB 0 (by rw[ho]; simp[yQ])
@[simp] theorem qIJ {f:Nat}{o:KOp}{env:Env}(h1:6<f)(h2:f<1000):zBc f o env=True:=by
 unfold zBc;split
 ·omega
 ·omega
 ·rw[if_neg (by omega),if_neg (by omega),if_neg (by omega)]
@[simp] theorem qEp {P:Program}{Qd:Value→St→Prop}{f d l:Nat}{zs:List Value}{K':Env→St→Prop}{env:Env} {σ : St}:jI P Qd f K' (.alr (some d) l zs) env σ = wpO P zAN K' (.alr (some d) l zs) env σ:=by simp[jI,KOp.lite,KOp.keeps]
@[simp] theorem qLu {P:Program}{d l:Nat}{zs:List Value}{Qp:Value→Env→St→Prop}{K':Env→St→Prop}{env:Env} {σ : St}:wpO P Qp K' (.alr (some d) l zs) env σ = (match σ[l]? with
 | some .rsv=>K' (env.put (some d) (.ptr l 0)) (σ.set l (.box (zs.map qS)))
 | _=>False):=rfl
end Go.Proofs.YtdnelmeboihpkaaGreatDoor
