/-
  Values as data: their cells; size, depth and order.
  slices.Compact at lists of IDs.
  value.SameType, trace.sameDef, trace.sameNode, trace.bodied.
  Numbers of the reference's evaluator: clip, truth.
-/
import Derived.Test.YthglhccibdlccaaGreatDoorX20
import Derived.Test.YthglhccibdlccaaGreatDoorX21
set_option linter.unusedVariables false
set_option linter.unusedSimpArgs false
namespace Go.Proofs.YthglhccibdlccaaGreatDoor
open Go.Abs
inductive Val where
 | mk (k n:Int) (kids:List Val)
def Val.k:Val→Int | .mk k _ _=>k
def Val.n:Val→Int | .mk _ n _=>n
def Val.kids:Val→List Val | .mk _ _ l=>l
mutual
def zIR:Val→A
 | .mk _ _ l=>.sl l.length (zV l)
def zV:List Val→List A
 | []=>[]
 | v::l=>.lit (.int .i64 v.k)::.lit (.int .i64 v.n)::zIR v::zV l
end
def zI (v:Val):List A:=[.lit (.int .i64 v.k),.lit (.int .i64 v.n),.sl v.kids.length (zV v.kids)]
theorem zUn (v:Val):zIR v=.sl v.kids.length (zV v.kids):=by cases v; simp only[zIR,Val.kids]
@[simp] theorem qBt:zV []=[]:=by simp only[zV]
@[simp] theorem zNA (v:Val)(l:List Val):zV (v::l)=.lit (.int .i64 v.k)::.lit (.int .i64 v.n)::.sl v.kids.length (zV v.kids)::zV l:=by simp only[zV,zUn]
@[simp] theorem zPx:∀l:List Val,(zV l).length=l.length*3
 | []=>by simp
 | v::l=>by simp[zPx l]; omega
mutual
theorem zN6:∀v:Val,nrm0 (zIR v)=zIR v∧∀rf g,vw rf g (zIR v)=zIR v
 | .mk k n l=>by have h:=zBE l;simp only[zIR];exact⟨by simp[h.1],fun rf g=>by simp[h.2]⟩
theorem zBE:∀l:List Val,jE (zV l)
 | []=>by simp only[zV]; exact jE.nil
 | v::l=>by have h:=zN6 v;have h':=zBE l;simp only[zV];exact⟨by simp[h.1,h'.1],fun rf g=>by simp[h.2,h'.2]⟩
end
@[simp] theorem qAd (l:List Val):jG (zV l)=zV l:=(zBE l).1
@[simp] theorem qE3 {rf g}(l:List Val):vwL rf g (zV l)=zV l:=(zBE l).2 _ _
theorem jD:∀{l:List Val} {i:Nat} (h:i<l.length),(zV l).drop (i*3)=.lit (.int .i64 l[i].k)::.lit (.int .i64 l[i].n)::.sl l[i].kids.length (zV l[i].kids)::zV (l.drop (i+1))
 | v::l,0,h=>by simp
 | v::l,i+1,h=>by
  have e:(i+1)*3=i*3+3:=by omega
  rw[e,zNA]
  simpa using jD (l:=l) (i:=i) (by simpa using h)
mutual
def qH:Val→Nat
 | .mk _ _ l=>1+qV l
def qV:List Val→Nat
 | []=>0
 | v::l=>qH v+qV l
end
theorem zGn:∀{l:List Val} {v:Val},v∈l→qH v≤qV l
 | x::l,v,h=>by
  simp only[qV];rcases List.mem_cons.1 h with rfl | h
  ·omega
  ·have:=zGn h; omega
theorem zAu {v x:Val}(h:x∈v.kids):qH x<qH v:=by
 cases v with
 | mk k n l=>have:=zGn (l:=l) h; simp only[qH]; omega
def zDc:Val→Int
 | .mk _ _ l=>l.attach.foldl (fun s x=>w64 (s+zDc x.1)) 1
termination_by v=>qH v
decreasing_by
 have:=zGn x.2;simp only[qH]; omega
def zKV (l:List Val):Int:=l.foldl (fun s x=>w64 (s+zDc x)) 1
theorem zKR (v:Val):zDc v=zKV v.kids:=by
 cases v with
 | mk k n l =>
  rw[zDc];simp only[Val.kids,zKV];rw[List.foldl_attach (f:=fun s x=>w64 (s+zDc x))]
theorem zIG {l:List Val}{i:Nat}(h:i<l.length):zKV (l.take (i+1))=IntKind.i64.wrap (zKV (l.take i)+zDc l[i]):=by rw[zKV,List.take_succ_eq_append_getElem h,List.foldl_append];rfl
def zOp (a b:Int):Int:=if a<b then b else a
def zB5:Val→Int
 | .mk _ _ l=>w64 (l.attach.foldl (fun s x=>zOp s (zB5 x.1)) 0+1)
termination_by v=>qH v
decreasing_by
 have:=zGn x.2;simp only[qH]; omega
def zIv (l:List Val):Int:=l.foldl (fun s x=>zOp s (zB5 x)) 0
theorem zFV (v:Val):zB5 v=w64 (zIv v.kids+1):=by
 cases v with
 | mk k n l =>
  rw[zB5];simp only[Val.kids,zIv];rw[List.foldl_attach (f:=fun s x=>zOp s (zB5 x))]
theorem zGi {l:List Val}{i:Nat}(h:i<l.length):zIv (l.take (i+1))=zOp (zIv (l.take i)) (zB5 l[i]):=by rw[zIv,List.take_succ_eq_append_getElem h,List.foldl_append];rfl
def qF8:K:=G [kO 1 0,kMi 2 0] (G [kMi 3 1] (Z (G [kMi 4 0] (K.block 0 (K.loop (Z (G [M 5 4,D 6 1 2,L 7 6 1,kN 8 7,kB 9 5 8 .lss] (Y 9 ks (K.exit 0))) (Z (K.block 1 (K.ops [M 12 3,D 13 1 2,L 14 13 1,M 15 4,kX 16 14 15 3,J 17 16 3,kC 18 121 [(kt 17)],kB 19 12 18 .add,M 3 19])) (K.ops [M 10 4,kBi 11 10 1 .add,M 4 11])))))) (G [M 20 3,M 2 20] kr)))
theorem qMs:zL Tryz.prog Tryz.f121.ntmps (Tryz.f121.body.getD .skip)=some qF8.erase:=by kernel_rfl
@[simp] theorem qN4:zA Tryz.prog 121=true:=by kernel_rfl
theorem zKD (v:Val):Ret Tryz.prog 121 [.agg (zI v)] [] (int (zDc v)) []:=by
 refine zK Tryz.func121 rfl qMs (rs:=[.slot 2]) (by kernel_rfl) ?_;unfold qF8;simp[zI];refine qZ (S:=Nat) (fun i=>[(1,.ptr 0 0),(3,int (zKV (v.kids.take i))),(4,int i)]) (fun s=>[.box (zI v)]) (fun i=>i≤v.kids.length) (fun i=>v.kids.length-i) 0 (by simp)
  (zS [0] 0 (by simp) (by simp) (by simp[zI]) (by simp[zKV])) ?_
 intro i hi;by_cases h:i<v.kids.length
 ·simp[zI,h,jD h];intro hl;refine zR (zKD v.kids[i]) (by simp[zI]) (by simp) ?_;simp;exact zT (i+1) h (by omega) (zS [0] 0 (by simp) (by simp) (by simp[zI]) (by simp[qB h hl,zIG h]))
 ·have:i=v.kids.length:=by omega
  subst this;simp[zI];exact fun _=>zC 0 (by simp[zKR v])
termination_by qH v
decreasing_by exact zAu (List.getElem_mem _)
def qF5:K:=G [kO 1 0,kMi 2 0] (G [kMi 3 0] (Z (G [kMi 4 0] (K.block 0 (K.loop (Z (G [M 5 4,D 6 1 2,L 7 6 1,kN 8 7,kB 9 5 8 .lss] (Y 9 ks (K.exit 0))) (Z (K.block 1 (K.ops [M 12 3,D 13 1 2,L 14 13 1,M 15 4,kX 16 14 15 3,J 17 16 3,kC 18 122 [(kt 17)],⟨none,.mm (some 19) true [(kt 12),(kt 18)]⟩,M 3 19])) (K.ops [M 10 4,kBi 11 10 1 .add,M 4 11])))))) (G [M 20 3,kBi 21 20 1 .add,M 2 21] kr)))
theorem qMp:zL Tryz.prog Tryz.f122.ntmps (Tryz.f122.body.getD .skip)=some qF5.erase:=by kernel_rfl
@[simp] theorem qNu:zA Tryz.prog 122=true:=by kernel_rfl
theorem zJn (v:Val):Ret Tryz.prog 122 [.agg (zI v)] [] (int (zB5 v)) []:=by
 refine zK Tryz.func122 rfl qMp (rs:=[.slot 2]) (by kernel_rfl) ?_;unfold qF5;simp[zI];refine qZ (S:=Nat) (fun i=>[(1,.ptr 0 0),(3,int (zIv (v.kids.take i))),(4,int i)]) (fun s=>[.box (zI v)]) (fun i=>i≤v.kids.length) (fun i=>v.kids.length-i) 0 (by simp)
  (zS [0] 0 (by simp) (by simp) (by simp[zI]) (by simp[zIv])) ?_
 intro i hi;by_cases h:i<v.kids.length
 ·simp[zI,h,jD h];intro hl;refine zR (zJn v.kids[i]) (by simp[zI]) (by simp) ?_;simp;exact zT (i+1) h (by omega) (zS [0] 0 (by simp) (by simp) (by simp[zI]) (by simp[qB h hl,zGi h,zOp]))
 ·have:i=v.kids.length:=by omega
  subst this;simp[zI];exact fun _=>zC 0 (by simp[zFV v,w64])
termination_by qH v
decreasing_by exact zAu (List.getElem_mem _)
def qFN:K:=G [kO 2 0,kO 3 1,kMi 4 0] (Z (Z (K.dops [(0,0,D 6 2 0),(1,0,L 7 6 1),(2,0,D 8 3 0),(3,0,L 9 8 1),(4,0,kC 10 135 [(kt 7),(kt 9)]),(5,0,D 11 2 1),(6,0,L 12 11 1),(7,0,D 13 3 1),(8,0,L 14 13 1),(9,0,kC 15 135 [(kt 12),(kt 14)]),(10,0,D 16 2 2),(11,0,L 17 16 1),(12,0,kN 18 17),(13,0,D 19 3 2),(14,0,L 20 19 1),(15,0,kN 21 20),(16,0,kC 22 135 [(kt 18),(kt 21)]),(17,0,kd 23 3 1 3 [ki,ki,ki] [(0,1,(kt 10)),(1,1,(kt 15)),(2,1,(kt 22))]),(18,0,kC 24 134 [(kt 23)]),(19,0,M 5 24)]) (G [M 25 5,kQi 26 25 0 true] (Y 26 (G [M 27 5,M 4 27] kr) ks))) (G [D 28 2 2,L 29 28 1,D 30 3 2,L 31 30 1,kC 32 180 [(kt 29),(kt 31),(.func 167)],M 4 32] kr))
theorem qM7:zL Tryz.prog Tryz.f167.ntmps (Tryz.f167.body.getD .skip)=some qFN.erase:=by kernel_rfl
@[simp] theorem qNW:zA Tryz.prog 167=true:=by kernel_rfl
def qFM:K:=G [kMi 6 0] (Z (G [M 11 0,kN 12 11,kMi 13 0] (K.block 0 (K.loop (G [kB 14 13 12 .lss] (Z (Y 14 ks (K.exit 0)) (Z (K.block 1 (G [M 15 13,kX 16 11 13 3,J 17 16 3,kZ 8 [ki,ki,kl],M 7 15,S 8 17 3] (Z (G [M 18 7,M 19 1,kN 20 19,kB 21 18 20 .geq] (Y 21 (G [kMi 6 1] kr) ks)) (G [M 22 1,M 23 7,kX 24 22 23 3,J 25 24 3,kZ 9 [ki,ki,kl],S 9 25 3] (G [M 26 2,J 27 8 3,J 28 9 3,⟨none,.call (some 29) (kt 26) [(kt 27),(kt 28)]⟩,M 10 29] (G [M 30 10,kQi 31 30 0 true] (Y 31 (G [M 32 10,M 6 32] kr) ks))))))) (K.ops [kBi 33 13 1 .add,M 13 33]))))))) (Z (G [M 34 0,kN 35 34,M 36 1,kN 37 36,kB 38 35 37 .lss] (Y 38 (G [⟨none,.mov (some 6) (kc (-1))⟩] kr) ks)) (G [kMi 6 0] kr)))
theorem qM6:zL Tryz.prog Tryz.f180.ntmps (Tryz.f180.body.getD .skip)=some qFM.erase:=by kernel_rfl
@[simp] theorem qNV:zA Tryz.prog 180=true:=by kernel_rfl
mutual
def zJv:Val→Val→Int
 | .mk k n l,.mk k' n' l'=>if orI [zB4 k k',zB4 n n',zB4 l.length l'.length]≠0 then orI [zB4 k k',zB4 n n',zB4 l.length l'.length] else zCy l l'
def zCy:List Val→List Val→Int
 | [],[]=>0
 | [],_::_=>-1
 | _::_,[]=>1
 | a::l,b::l'=>if zJv a b≠0 then zJv a b else zCy l l'
end
def zJh (a b:Val):Int:=orI [zB4 a.k b.k,zB4 a.n b.n,zB4 a.kids.length b.kids.length]
theorem zDg (a b:Val):zJv a b=if zJh a b≠0 then zJh a b else zCy a.kids b.kids:=by cases a; cases b; rw[zJv]; rfl
theorem zJS (xs ys:List Val)(h:∀a∈xs,∀b∈ys,Ret Tryz.prog 167 [.agg (zI a),.agg (zI b)] [] (int (zJv a b)) []) :
 Ret Tryz.prog 180 [.sl xs.length (zV xs),.sl ys.length (zV ys),.clo 167 [] []] [] (int (zCy xs ys)) []:=by
 refine zK Tryz.func180 rfl qM6 (rs:=[.slot 6]) (by kernel_rfl) ?_;unfold qFM;simp;intro hl;refine qZ (S:=Nat) (fun i=>[(0,.sl xs.length (zV xs)),(1,.sl ys.length (zV ys)),(2,.clo 167 [] []),(11,.sl xs.length (zV xs)),(12,int xs.length),(13,int i)]) (fun s=>[])
  (fun i=>i≤xs.length∧i≤ys.length∧zCy xs ys=zCy (xs.drop i) (ys.drop i)) (fun i=>xs.length-i) 0 (by simp)
  (zS [] 0 (by simp) (by simp) (by simp) (by simp)) ?_
 rintro i ⟨hi,hi',ho⟩;simp;refine jV (fun h1=>?_) (fun h1=>?_)<;>simp at h1
 ·have hd:xs.drop i=xs[i]::xs.drop (i+1):=List.drop_eq_getElem_cons h1;simp[h1,jD h1];intro hl';refine jV (fun h2=>?_) (fun h2=>?_)<;>simp at h2
  ·simp;have hn:ys.drop i=[]:=List.drop_eq_nil_of_le h2;exact zC 0 (by rw[ho,hd,hn]; simp[zCy])
  ·have hd':ys.drop i=ys[i]::ys.drop (i+1):=List.drop_eq_getElem_cons h2;simp[h2,jD h2];refine zR (h xs[i] (List.getElem_mem _) ys[i] (List.getElem_mem _)) (by simp[zI]) (by simp) ?_;simp;refine jV (fun h3=>?_) (fun h3=>?_)<;>simp at h3
   ·simp;exact zC 0 (by rw[ho,hd,hd']; simp[zCy,h3])
   ·simp;refine zT (i+1) ⟨h1,h2,by rw[ho,hd,hd']; simp[zCy,h3]⟩ (by omega) (zS [] 0 (by simp) (by simp) (by simp) (by simp[qB h1 hl]))
 ·have:i=xs.length:=by omega
  subst this;simp;have hn:xs.drop xs.length=[]:=by simp
  intro _ hl';refine jV (fun h2=>?_) (fun h2=>?_)<;>simp at h2
  ·have hd':ys.drop xs.length=ys[xs.length]::ys.drop (xs.length+1):=List.drop_eq_getElem_cons h2;simp;exact zC 0 (by rw[ho,hn,hd']; simp[zCy])
  ·have hn':ys.drop xs.length=[]:=List.drop_eq_nil_of_le h2;simp;exact zC 0 (by rw[ho,hn,hn']; simp[zCy])
theorem zQP (a b:Val):Ret Tryz.prog 167 [.agg (zI a),.agg (zI b)] [] (int (zJv a b)) []:=by
 refine zK Tryz.func167 rfl qM7 (rs:=[.slot 4]) (by kernel_rfl) ?_;unfold qFN;simp[zI];refine qE (zC4 a.k b.k) (by simp) (by simp) ?_;simp;refine qE (zC4 a.n b.n) (by simp) (by simp) ?_;simp;refine qE (zC4 a.kids.length b.kids.length) (by simp) (by simp) ?_;simp;refine qE (qAi [zB4 a.k b.k,zB4 a.n b.n,zB4 a.kids.length b.kids.length]) (by simp) (by simp) ?_;simp;refine jV (fun h=>?_) (fun h=>?_)<;>simp at h
 ·simp;exact zC 0 (by rw[zDg]; simp[zJh,h])
 ·simp;refine zR (zJS a.kids b.kids fun x hx y hy=>zQP x y) (by simp) (by simp) ?_;simp;exact zC 0 (by rw[zDg]; simp[zJh,h])
termination_by qH a
decreasing_by exact zAu hx
theorem zM9 {a b:Int}(h:a<b):zB4 a b = -1:=by simp[zB4,h]
theorem zM8 {a b:Int}(h:b<a):zB4 a b=1:=by simp[zB4,h,Int.not_lt.2 (Int.le_of_lt h)]
theorem zM7 {a b:Int}(h:b≤a)(h':a≤b):zB4 a b=0:=by simp[zB4,Int.not_lt.2 h,Int.not_lt.2 h']
def qF4:K:=G [kO 2 0,kO 3 1,kMi 4 0] (G [D 10 2 0,L 11 10 1,D 12 2 1,L 13 12 1,D 14 2 2,L 15 14 1,kN 16 15,kd 17 3 1 3 [ki,ki,ki] [(0,1,(kt 11)),(1,1,(kt 13)),(2,1,(kt 16))],M 5 17] (G [D 18 3 0,L 19 18 1,D 20 3 1,L 21 20 1,D 22 3 2,L 23 22 1,kN 24 23,kd 25 3 1 3 [ki,ki,ki] [(0,1,(kt 19)),(1,1,(kt 21)),(2,1,(kt 24))],M 6 25] (Z (G [kMi 7 0] (K.block 0 (K.loop (Z (G [M 26 7,kBi 27 26 3 .lss] (Y 27 ks (K.exit 0))) (Z (K.block 1 (Z (Z (K.dops [(0,0,M 30 5),(1,0,M 31 7),(2,0,kX 32 30 31 1),(3,0,L 33 32 1),(4,0,M 34 6),(5,0,M 35 7),(6,0,kX 36 34 35 1),(7,0,L 37 36 1),(8,0,kB 38 33 37 .lss)]) (Y 38 (G [⟨none,.mov (some 4) (kc (-1))⟩] kr) ks)) (Z (K.dops [(0,0,M 39 5),(1,0,M 40 7),(2,0,kX 41 39 40 1),(3,0,L 42 41 1),(4,0,M 43 6),(5,0,M 44 7),(6,0,kX 45 43 44 1),(7,0,L 46 45 1),(8,0,kB 47 42 46 .gtr)]) (Y 47 (G [kMi 4 1] kr) ks)))) (K.ops [M 28 7,kBi 29 28 1 .add,M 7 29])))))) (Z (G [kMi 8 0] (K.block 2 (K.loop (Z (G [M 48 8,D 49 2 2,L 50 49 1,kN 51 50,kB 52 48 51 .lss] (Y 52 ks (K.exit 2))) (Z (K.block 3 (Z (K.dops [(0,0,D 55 2 2),(1,0,L 56 55 1),(2,0,M 57 8),(3,0,kX 58 56 57 3),(4,0,J 59 58 3),(5,0,D 60 3 2),(6,0,L 61 60 1),(7,0,M 62 8),(8,0,kX 63 61 62 3),(9,0,J 64 63 3),(10,0,kC 65 15 [(kt 59),(kt 64)]),(11,0,M 9 65)]) (G [M 66 9,kQi 67 66 0 true] (Y 67 (G [M 68 9,M 4 68] kr) ks)))) (K.ops [M 53 8,kBi 54 53 1 .add,M 8 54])))))) (G [kMi 4 0] kr)))))
theorem qMo:zL Tryz.prog Tryz.f15.ntmps (Tryz.f15.body.getD .skip)=some qF4.erase:=by kernel_rfl
@[simp] theorem qNt:zA Tryz.prog 15=true:=by kernel_rfl
theorem zG5 (a b:Val):Ret Tryz.prog 15 [.agg (zI a),.agg (zI b)] [] (int (zJv a b)) []:=by
 refine zK Tryz.func15 rfl qMo (rs:=[.slot 4]) (by kernel_rfl) ?_;unfold qF4;simp[zI];intro hl hl';refine qZ (S:=Nat) (fun i=>[(2,.ptr 0 0),(3,.ptr 1 0),(5,.sl 3 [int a.k,int a.n,int a.kids.length]),(6,.sl 3 [int b.k,int b.n,int b.kids.length]),(7,int i)])
  (fun s=>[.box [int a.k,int a.n,.sl a.kids.length (zV a.kids)],.box [int b.k,int b.n,.sl b.kids.length (zV b.kids)]])
  (fun i=>i≤3∧zJh a b=orI (([zB4 a.k b.k,zB4 a.n b.n,zB4 a.kids.length b.kids.length]).drop i)) (fun i=>3-i) 0 (by simp[zJh])
  (zS [0,1] 0 (by simp) (by simp) (by simp) (by simp)) ?_
 rintro i ⟨hi,ho⟩;rcases (by omega:i=0∨i=1∨i=2∨i=3)with rfl | rfl | rfl | rfl
 ·simp;refine jV (fun h1=>?_) (fun h1=>?_)<;>simp at h1
  ·simp;exact zC 0 (by rw[zDg,ho]; simp[orI,zM9 h1])
  simp;refine jV (fun h2=>?_) (fun h2=>?_)<;>simp at h2
  ·simp;exact zC 0 (by rw[zDg,ho]; simp[orI,zM8 h2])
  simp;exact zT 1 ⟨by omega,by rw[ho]; simp[orI,zM7 h1 h2]⟩ (by omega) (zS [0,1] 0 (by simp) (by simp) (by simp) (by simp; rfl))
 ·simp;refine jV (fun h1=>?_) (fun h1=>?_)<;>simp at h1
  ·simp;exact zC 0 (by rw[zDg,ho]; simp[orI,zM9 h1])
  simp;refine jV (fun h2=>?_) (fun h2=>?_)<;>simp at h2
  ·simp;exact zC 0 (by rw[zDg,ho]; simp[orI,zM8 h2])
  simp;exact zT 2 ⟨by omega,by rw[ho]; simp[orI,zM7 h1 h2]⟩ (by omega) (zS [0,1] 0 (by simp) (by simp) (by simp) (by simp; rfl))
 ·simp;refine jV (fun h1=>?_) (fun h1=>?_)<;>simp at h1
  ·simp;exact zC 0 (by rw[zDg,ho]; simp[orI,zM9 (Int.ofNat_lt.2 h1)])
  simp;refine jV (fun h2=>?_) (fun h2=>?_)<;>simp at h2
  ·simp;exact zC 0 (by rw[zDg,ho]; simp[orI,zM8 (Int.ofNat_lt.2 h2)])
  simp;exact zT 3 ⟨by omega,by rw[ho]; simp[orI,zM7 (Int.ofNat_le.2 h1) (Int.ofNat_le.2 h2)]⟩ (by omega) (zS [0,1] 0 (by simp) (by simp) (by simp) (by simp; rfl))
 have hlen:a.kids.length=b.kids.length:=by
  have h0:zJh a b=0:=by rw[ho]; rfl
  simp only[zJh,orI]at h0;split at h0<;>try contradiction
  split at h0<;>try contradiction
  split at h0<;>try contradiction
  rename_i _ _ h;simp only[zB4]at h;split at h
  ·cases h
  ·split at h
   ·cases h
   ·omega
 simp;refine qZ (S:=Nat) (fun i=>[(2,.ptr 0 0),(3,.ptr 1 0),(8,int i)])
  (fun s=>[.box [int a.k,int a.n,.sl a.kids.length (zV a.kids)],.box [int b.k,int b.n,.sl b.kids.length (zV b.kids)]])
  (fun i=>i≤a.kids.length∧zJv a b=zCy (a.kids.drop i) (b.kids.drop i)) (fun i=>a.kids.length-i) 0 ⟨by omega,by rw[zDg,ho]; simp[orI]⟩
  (zS [0,1] 0 (by simp) (by simp) (by simp) (by simp)) ?_
 rintro i ⟨hi,ho⟩;simp;intro _;refine jV (fun h1=>?_) (fun h1=>?_)<;>simp at h1
 ·have h2:i<b.kids.length:=by omega
  have hd:a.kids.drop i=a.kids[i]::a.kids.drop (i+1):=List.drop_eq_getElem_cons h1;have hd':b.kids.drop i=b.kids[i]::b.kids.drop (i+1):=List.drop_eq_getElem_cons h2;simp[h1,h2,jD h1,jD h2];refine qE (zG5 a.kids[i] b.kids[i]) (by simp[zI]) (by simp) ?_;simp;refine jV (fun h3=>?_) (fun h3=>?_)<;>simp at h3
  ·simp;exact zC 0 (by rw[ho,hd,hd']; simp[zCy,h3])
  ·simp;exact zT (i+1) ⟨h1,by rw[ho,hd,hd']; simp[zCy,h3]⟩ (by omega) (zS [0,1] 0 (by simp) (by simp) (by simp) (by simp[qB h1 hl]))
 ·simp;have e1:a.kids.drop i=[]:=List.drop_eq_nil_of_le h1;have e2:b.kids.drop i=[]:=List.drop_eq_nil_of_le (by omega);exact zC 0 (by rw[ho,e1,e2]; simp[zCy])
termination_by qH a
decreasing_by exact zAu (List.getElem_mem _)
theorem zId {l:List Id}{m:Nat}(h1:1≤m)(h:m<l.length):zAh (l.take (m+1))=if l[m-1]=l[m] then zAh (l.take m) else zAh (l.take m)++[l[m]]:=by
 rw[List.take_succ_eq_append_getElem h,zC3,zG6,zJQ];have:(l.take m).getLast?=some l[m-1]:=by rw[List.getLast?_eq_getElem?,List.length_take,Nat.min_eq_left (by omega),List.getElem?_take,if_pos (by omega),List.getElem?_eq_getElem (by omega)]
 rw[this];simp only[Option.some.injEq]
theorem zLC (l:List Id):(zAh l).length≤l.length:=by
 induction l using zBy with
 | nil=>simp[zAh]
 | snoc l y ih =>
  rw[zC3,zG6];split
  ·simp; omega
  ·simp; omega
theorem zUt {l:List Id}(h:1≤l.length):zAh (l.take 1)=l.take 1:=by
 cases l with
 | nil=>simp at h
 | cons x l=>simp[zAh,zG6]
theorem zWV {l:List Id}{i:Nat}(h1:1≤i)(h:i<l.length)(hd:l[i-1]=l[i]):zAh l≠l:=by
 intro e;have:∀r:List Id,(zAh (l.take (i+1)++r)).length≤i+r.length:=fun r=>by
  induction r using zBy with
  | nil =>
   rw[List.append_nil,zId h1 h,if_pos hd];have:=zLC (l.take i);simp at this;simp;omega
  | snoc r y ih =>
   rw[←List.append_assoc,zC3,zG6];split
   ·simp; omega
   ·simp; omega
 have:=this (l.drop (i+1));rw[List.take_append_drop,e]at this;simp at this;omega
theorem zGA:∀{R:List Id} {k:Nat} (x:Id),k<R.length→(qF R).take (k*3)++(.lit (.int .i64 x.a)::.lit (.int .i64 x.b)::.lit (.int .i64 x.c)::(qF R).drop (k*3+3))=qF (R.set k x)
 | v::R,0,x,h=>by simp
 | v::R,k+1,x,h=>by
  have e:(k+1)*3=k*3+3:=by omega
  have:=zGA (R:=R) (k:=k) x (by simpa using h);rw[e,zDE,List.set_cons_succ,zDE,←this];simp
def zCD (n:Nat):List Id:=List.replicate n Id.zero
theorem zEz:∀n:Nat,qF (zCD n)=(List.replicate n [A.lit (.int .i64 0),A.lit (.int .i64 0),A.lit (.int .i64 0)]).flatten
 | 0=>rfl
 | n+1=>by have:=zEz n;simp only[zCD,List.replicate_succ,List.flatten_cons]at this ⊢;rw[←this]; rfl
theorem zVV {R:List Id}{k:Nat}{x:Id}(h:k<R.length):(R.set k x).take (k+1)=R.take k++[x]:=by rw[List.take_set,List.take_succ_eq_append_getElem h,List.set_append_right _ _ (by simp; omega)];simp[Nat.min_eq_left (Nat.le_of_lt h)]
def zND (l:List Id):A:=if zAh l=l then .row 0 l.length else .win 0 l.length 0 (zAh l).length ((zAh l).length*3)
theorem zPz (l:List Id)(hb:l.length≤1000000):Ret Tryz.prog 97 [.row 0 l.length] [.row false 29 3 l.length (qF l)] (zND l)
 [.row false 29 3 l.length (qF (zAh l++zCD (l.length-(zAh l).length)))]:=by
 have hsame:zAh l=l→qF (zAh l++zCD (l.length-(zAh l).length))=qF l:=fun e=>by rw[e]; simp[zCD]
 refine zK Tryz.func97 rfl zN2 (rs:=[.slot 2]) (by kernel_rfl) ?_;unfold zJD;by_cases h2:l.length<2
 ·have hc:zAh l=l:=by
   match l,h2 with
   | [],_=>rfl
   | [x],_=>simp[zAh,zG6]
  have h2':(l.length:Int)<2:=by omega
  simp[h2'];exact zG [0] 0 (by simp) (by simp) (by simp[hsame hc]) (by simp[zND,hc])
 ·have h2':¬(l.length:Int)<2:=by omega
  simp[h2'];refine qZ (S:=Nat) (fun i=>[(0,.row 0 l.length),(3,int i)]) (fun i=>[.row false 29 3 l.length (qF l)]) (fun i=>1≤i∧i≤l.length∧zAh (l.take i)=l.take i) (fun i=>l.length-i) 1 ⟨by omega,by omega,zUt (by omega)⟩
   (zS [0] 0 (by simp) (by simp) (by simp) (by simp)) ?_
  rintro i ⟨h1,hi,hc⟩;by_cases h:i<l.length
  ·have hi1:i-1<l.length:=by omega
   have hw:IntKind.i64.wrap ((i:Int)-1)=((i-1:Nat):Int):=by rw[Int.ofNat_sub h1]; exact IntWalk.i64_in _ (by omega)
   have hn1:¬(l.length*3<i*3+3):=by omega
   have hl1:i*3+3≤l.length*3:=by omega
   have hl2:(i-1)*3+3≤l.length*3:=by omega
   have hct:=zId h1 h;by_cases hd:l[i-1]=l[i]
   ·rw[if_pos hd,hc]at hct;have hne:=zWV h1 h hd;have hd3:zCf l[i].a l[i].b l[i].c l[i-1].a l[i-1].b l[i-1].c=true:=by rw[zAX]; simp[hd]
    simp[h,hw,hl1,hl2,hi1,yK h,yK hi1,hd3];refine⟨hi,?_⟩;refine qZ (S:=Nat×Nat×List Id) (fun s=>[(0,.row 0 l.length),(3,int s.1),(4,.win 0 l.length (i*3) (l.length-i) ((l.length-i)*3)),(5,int s.2.1)]) (fun s=>[.row false 29 3 l.length (qF s.2.2)])
     (fun s=>s.2.2.length=l.length∧1≤s.2.1∧i+s.2.1≤l.length∧s.1+1≤i+s.2.1∧(zAh (l.take (i+s.2.1))).length=s.1∧s.2.2.take s.1=zAh (l.take (i+s.2.1))∧s.2.2.drop (i+s.2.1-1)=l.drop (i+s.2.1-1))
     (fun s=>l.length-(i+s.2.1)) (i,1,l) ⟨rfl,Nat.le_refl _,h,by simp,by simp[hct]; omega,by simp[hct],rfl⟩
     (zS [0] 0 (by simp) (by simp) (by simp) (by simp)) ?_
    rintro⟨k,j,R⟩ ⟨r1,r2,r3,r4,r5,r6,r7⟩;simp only at r1 r2 r3 r4 r5 r6 r7;simp only;have hsub:(l.length:Int)-i=((l.length-i:Nat):Int):=by omega
    have hwj:IntKind.i64.wrap ((j:Int)-1)=((j-1:Nat):Int):=by rw[Int.ofNat_sub r2]; exact IntWalk.i64_in _ (by omega)
    have hwj1:IntKind.i64.wrap ((j:Int)+1)=((j+1:Nat):Int):=by push_cast; exact IntWalk.i64_in _ (by omega)
    have hwk1:IntKind.i64.wrap ((k:Int)+1)=((k+1:Nat):Int):=by push_cast; exact IntWalk.i64_in _ (by omega)
    by_cases hj:i+j<l.length
    ·have hjR:i+j<R.length:=by omega
     have hj1R:i+j-1<R.length:=by omega
     have hkR:k<R.length:=by omega
     have hR:R[i+j]=l[i+j]:=by have:=congrArg (fun x:List Id=>x[1]?) r7;simp only[List.getElem?_drop]at this;rw[show i+j-1+1=i+j by omega,List.getElem?_eq_getElem hjR,List.getElem?_eq_getElem hj]at this;exact Option.some.inj this
     have hR1:R[i+j-1]=l[i+j-1]:=by have:=congrArg (fun x:List Id=>x[0]?) r7;simp only[List.getElem?_drop]at this;rw[show i+j-1+0=i+j-1 by omega,List.getElem?_eq_getElem hj1R,List.getElem?_eq_getElem (by omega)]at this;exact Option.some.inj this
     have e0:i*3+j*3=(i+j)*3:=by omega
     have e1:i*3+(j-1)*3=(i+j-1)*3:=by omega
     have hjlt:j<l.length-i:=by omega
     have hjlt1:j-1<l.length-i:=by omega
     have hb0:(i+j)*3+3≤l.length*3:=by omega
     have hb1:(i+j-1)*3+3≤l.length*3:=by omega
     have hbk:k*3+3≤l.length*3:=by omega
     have hkl:k<l.length:=by omega
     have hct2:=zId (l:=l) (m:=i+j) (by omega) hj;by_cases hd2:l[i+j-1]=l[i+j]
     ·rw[if_pos hd2]at hct2;have hs3:zCf R[i+j].a R[i+j].b R[i+j].c R[i+j-1].a R[i+j-1].b R[i+j-1].c=true:=by rw[zAX,hR,hR1,hd2]; simp
      simp[hjlt,hjlt1,hwj,e0,e1,r1,hb0,hb1,yK hjR,yK hj1R,hs3];exact zT (k,j+1,R) ⟨r1,by simp,by simp only; omega,by simp only; omega,by simp only[←Nat.add_assoc,hct2]; exact r5,by simp only[←Nat.add_assoc,hct2]; exact r6,by
       have:=congrArg (fun x:List Id=>x.drop 1) r7;simp only[List.drop_drop]at this;simp only;rw[show i+(j+1)-1=i+j-1+1 by omega];exact this⟩ (by simp only; omega) (zS [0] 0 (by simp) (by simp) (by simp) (by simp[hwj1]))
     ·rw[if_neg hd2]at hct2;have hs3:zCf R[i+j].a R[i+j].b R[i+j].c R[i+j-1].a R[i+j-1].b R[i+j-1].c=false:=by rw[zAX,hR,hR1]; exact decide_eq_false fun e=>hd2 e.symm
      simp[hjlt,hjlt1,hwj,e0,e1,r1,hb0,hb1,hbk,hkl,yK hjR,yK hj1R,hs3,zGA _ hkR];exact zT (k+1,j+1,R.set k l[i+j]) ⟨by simp[r1],by simp,by simp only; omega,by simp only; omega,by simp only[←Nat.add_assoc,hct2,List.length_append,r5]; simp,by
       simp only[←Nat.add_assoc,hct2];rw[zVV hkR,r6],by
       have:=congrArg (fun x:List Id=>x.drop 1) r7;simp only[List.drop_drop]at this;simp only;rw[show i+(j+1)-1=i+j-1+1 by omega,List.drop_set_of_lt (by omega)];exact this⟩ (by simp only; omega) (zS [0] 0 (by simp) (by simp) (by simp[hR]) (by simp[hwj1,hwk1]))
    ·have hij:i+j=l.length:=by omega
     have hj':¬(j:Int)<((l.length-i:Nat):Int):=by omega
     simp[hj',r1];rw[hij,List.take_length]at r5 r6;have e2:k*3+(l.length-k)*3=l.length*3:=by omega
     have hcells:List.take (k*3) (qF R)++((List.replicate (l.length-k) [A.lit (Value.int IntKind.i64 0),A.lit (Value.int IntKind.i64 0),A.lit (Value.int IntKind.i64 0)]).flatten++List.drop (k*3+(l.length-k)*3) (qF R))=qF (zAh l++zCD (l.length-(zAh l).length)):=by rw[e2,List.drop_of_length_le (by simp[r1]),List.append_nil,zIT,r6,jJ,zEz,r5]
     rw[hcells];refine⟨by omega,by omega,by omega,?_⟩;exact zG [0] 0 (by simp) (by simp) (by simp) (by simp[zND,hne,r5])
   ·rw[if_neg hd,hc]at hct;have hd3:zCf l[i].a l[i].b l[i].c l[i-1].a l[i-1].b l[i-1].c=false:=by rw[zAX]; exact decide_eq_false fun e=>hd e.symm
    simp[h,hw,hl1,hl2,hi1,yK h,yK hi1,hd3];exact zT (i+1) ⟨by omega,h,by rw[hct,List.take_succ_eq_append_getElem h]⟩ (by omega) (zS [0] 0 (by simp) (by simp) (by simp) (by simp[qB h (show l.length≤maxLen by simp[maxLen]; omega)]))
  ·have:i=l.length:=by omega
   subst this;rw[List.take_length]at hc;simp;exact zG [0] 0 (by simp) (by simp) (by simp[hsame hc]) (by simp[zND,hc])
def zT4:K:=G [kO 2 0,kO 3 1,kMb 4 false] (G [D 5 2 0,L 6 5 1,D 7 3 0,L 8 7 1,kQ 9 6 8 false,M 10 9,T 10 true (D 11 2 1),T 10 true (J 12 11 3),T 10 true (D 13 3 1),T 10 true (J 14 13 3),⟨some (10,true),.eqs (some 15) false [.i,.i,.i] (kt 12) (kt 14)⟩,kPf 16 10 15,M 17 16,T 17 true (D 18 2 4),T 17 true (L 19 18 1),T 17 true (D 20 3 4),T 17 true (L 21 20 1),T 17 true (kC 22 139 [(kt 19),(kt 21),(.func 105)]),kPf 23 17 22,M 4 23] kr)
theorem qAI:zL Tryz.prog Tryz.f105.ntmps (Tryz.f105.body.getD .skip)=some zT4.erase:=by kernel_rfl
@[simp] theorem zTX:zA Tryz.prog 105=true:=by kernel_rfl
def KSD:K:=G [kO 2 0,kO 3 1,kMb 4 false] (G [⟨none,.mov (some 5) (.func 104)⟩] (G [D 6 2 3,L 7 6 1,D 8 3 3,L 9 8 1,kQ 10 7 9 false,M 11 10,T 11 true (D 12 2 8),T 11 true (L 13 12 1),T 11 true (D 14 3 8),T 11 true (L 15 14 1),T 11 true (M 16 5),T 11 true (kC 17 106 [(kt 13),(kt 15),(kt 16)]),kPf 18 11 17,M 19 18,T 19 true (D 20 2 9),T 19 true (J 21 20 5),T 19 true (D 22 3 9),T 19 true (J 23 22 5),T 19 true (kC 24 105 [(kt 21),(kt 23)]),kPf 25 19 24,M 26 25,T 26 true (J 27 2 31),T 26 true (kC 28 43 [(kt 27)]),T 26 true (kR 29 28),T 26 true (M 30 29),T 30 false (D 31 2 14),T 30 false (D 32 31 0),T 30 false (J 33 32 3),T 30 false (D 34 3 14),T 30 false (D 35 34 0),T 30 false (J 36 35 3),⟨some (30,false),.eqs (some 37) false [.i,.i,.i] (kt 33) (kt 36)⟩,T 26 true (kPt 38 30 37),kPf 39 26 38,M 4 39] kr))
theorem cSD:zL Tryz.prog Tryz.f57.ntmps (Tryz.f57.body.getD .skip)=some KSD.erase:=by kernel_rfl
@[simp] theorem qP0:zA Tryz.prog 57=true:=by kernel_rfl
def qFD:K:=G [kO 2 0,kO 3 1,kMb 4 false] (G [D 5 2 0,J 6 5 3,D 7 3 0,J 8 7 3,⟨none,.eqs (some 9) false [.i,.i,.i] (kt 6) (kt 8)⟩,M 10 9,T 10 true (D 11 2 4),T 10 true (J 12 11 5),T 10 true (D 13 3 4),T 10 true (J 14 13 5),T 10 true (kC 15 105 [(kt 12),(kt 14)]),kPf 16 10 15,M 17 16,T 17 true (D 18 2 9),T 17 true (L 19 18 1),T 17 true (D 20 3 9),T 17 true (L 21 20 1),T 17 true (kQ 22 19 21 false),kPf 23 17 22,M 4 23] kr)
theorem qMx:zL Tryz.prog Tryz.f104.ntmps (Tryz.f104.body.getD .skip)=some qFD.erase:=by kernel_rfl
@[simp] theorem qAX:zA Tryz.prog 104=true:=by kernel_rfl
def KSN:K:=G [kO 2 0,kO 3 1,kMb 4 false] (G [⟨none,.mov (some 5) (.func 107)⟩] (G [D 6 2 3,L 7 6 1,D 8 3 3,L 9 8 1,kQ 10 7 9 false,M 11 10,T 11 true (D 12 2 4),T 11 true (L 13 12 1),T 11 true (D 14 3 4),T 11 true (L 15 14 1),T 11 true (kQ 16 13 15 false),kPf 17 11 16,M 18 17,T 18 true (D 19 2 5),T 18 true (J 20 19 3),T 18 true (D 21 3 5),T 18 true (J 22 21 3),⟨some (18,true),.eqs (some 23) false [.i,.i,.i] (kt 20) (kt 22)⟩,kPf 24 18 23,M 25 24,T 25 true (D 26 2 8),T 25 true (J 27 26 5),T 25 true (D 28 3 8),T 25 true (J 29 28 5),T 25 true (kC 30 105 [(kt 27),(kt 29)]),kPf 31 25 30,M 32 31,T 32 true (D 33 2 13),T 32 true (L 34 33 1),T 32 true (D 35 3 13),T 32 true (L 36 35 1),T 32 true (M 37 5),T 32 true (kC 38 108 [(kt 34),(kt 36),(kt 37)]),kPf 39 32 38,M 4 39] kr))
theorem cSN:zL Tryz.prog Tryz.f59.ntmps (Tryz.f59.body.getD .skip)=some KSN.erase:=by kernel_rfl
@[simp] theorem qP1:zA Tryz.prog 59=true:=by kernel_rfl
def qFE:K:=G [kO 2 0,kO 3 1,kMb 4 false] (G [D 5 2 0,J 6 5 3,D 7 3 0,J 8 7 3,⟨none,.eqs (some 9) false [.i,.i,.i] (kt 6) (kt 8)⟩,M 4 9] kr)
theorem qMy:zL Tryz.prog Tryz.f107.ntmps (Tryz.f107.body.getD .skip)=some qFE.erase:=by kernel_rfl
@[simp] theorem qAY:zA Tryz.prog 107=true:=by kernel_rfl
def qEZ:K:=G [kO 1 0,kMb 2 false] (G [D 3 1 3,L 4 3 1,kQi 5 4 2 false,M 6 5,T 6 false (D 7 1 3),T 6 false (L 8 7 1),T 6 false (kQi 9 8 3 false),kPt 10 6 9,M 11 10,T 11 false (D 12 1 3),T 11 false (L 13 12 1),T 11 false (kQi 14 13 4 false),kPt 15 11 14,M 16 15,T 16 false (D 17 1 3),T 16 false (L 18 17 1),T 16 false (kQi 19 18 5 false),kPt 20 16 19,M 2 20] kr)
theorem qLK:zL Tryz.prog Tryz.f43.ntmps (Tryz.f43.body.getD .skip)=some qEZ.erase:=by kernel_rfl
@[simp] theorem qMG:zA Tryz.prog 43=true:=by kernel_rfl
mutual
def yL:Typ→Typ→Bool
 | .mk k i l,.mk k' i' l'=>decide (k=k')&&(decide (i=i')&&zCW l l')
def zCW:List Typ→List Typ→Bool
 | [],[]=>true
 | x::a,y::b=>yL x y&&zCW a b
 | _,_=>false
end
theorem zMs:∀(a b:List Typ),zCW a b=zCi yL a b
 | [],[]=>by simp only[zCW,zCi]
 | x::a,y::b=>by simp only[zCW,zCi,zMs a b]
 | [],_::_=>by simp only[zCW,zCi]
 | _::_,[]=>by simp only[zCW,zCi]
theorem zMr (a b:Typ):yL a b=(decide (a.k=b.k)&&(decide (a.id=b.id)&&zCi yL a.kids b.kids)):=by cases a; cases b; simp only[yL,zMs]; rfl
mutual
theorem zEq:∀(a b:Typ),yL a b=true↔a=b
 | .mk k i l,.mk k' i' l'=>by simp only[yL,Bool.and_eq_true,decide_eq_true_eq,zKO l l',Typ.mk.injEq]
theorem zKO:∀(a b:List Typ),zCW a b=true↔a=b
 | [],[]=>by simp[zCW]
 | x::a,y::b=>by simp only[zCW,Bool.and_eq_true,zEq x y,zKO a b,List.cons.injEq]
 | [],_::_=>by simp[zCW]
 | _::_,[]=>by simp[zCW]
end
mutual
theorem zDP:∀(a b:Typ),Ret Tryz.prog 105 [.agg (zB a),.agg (zB b)] [] (bl (yL a b)) []
 | .mk k i l,b=>by
  have ih:=zHF l;generalize ha:Typ.mk k i l=a;have hal:a.kids=l:=by rw[←ha]; rfl
  rw[←hal]at ih;refine zK Tryz.func105 rfl qAI (rs:=[.slot 4]) (by kernel_rfl) ?_;unfold zT4;have hd:=zMr a b;by_cases h1:a.k=b.k
  ·by_cases h2:a.id=b.id
   ·simp[zB,h1,h2];refine zR (zXv 105 zTX yL a.kids b.kids fun x hx y hy=>ih x hx y) (by simp) (by simp) ?_;simp;exact zC 0 (by simp[hd,h1,h2])
   ·have h3:zCf a.id.a a.id.b a.id.c b.id.a b.id.b b.id.c=false:=by rw[zAX]; exact decide_eq_false h2
    simp[zB,h1,h3];exact zC 0 (by simp[hd,h2])
  ·simp[zB,h1];exact zC 0 (by simp[hd,h1])
theorem zHF:∀(l:List Typ),∀x∈l,∀y:Typ,Ret Tryz.prog 105 [.agg (zB x),.agg (zB y)] [] (bl (yL x y)) []
 | [],x,hx,_=>by simp at hx
 | z::l,x,hx,y=>by
  rcases List.mem_cons.1 hx with e | hx
  ·rw[e]; exact zDP z y
  ·exact zHF l x hx y
end
def zBO (k:Int):Bool:=decide (k=2)||(decide (k=3)||(decide (k=4)||decide (k=5)))
theorem zFS (d:Dfn):Ret Tryz.prog 43 [.agg (zP d)] [] (bl (zBO d.kind)) []:=by
 refine zK Tryz.func43 rfl qLK (rs:=[.slot 2]) (by kernel_rfl) ?_;unfold qEZ;by_cases h2:d.kind=2
 ·simp[zP,h2];exact zC 0 (by simp[zBO,h2])
 ·by_cases h3:d.kind=3
  ·simp[zP,h2,h3];exact zC 0 (by simp[zBO,h2,h3])
  ·by_cases h4:d.kind=4
   ·simp[zP,h2,h3,h4];exact zC 0 (by simp[zBO,h2,h3,h4])
   ·simp[zP,h2,h3,h4];exact zC 0 (by simp[zBO,h2,h3,h4])
def zKN (x y:Slt):Bool:=decide (x.id=y.id)&&(yL x.typ y.typ&&decide (x.most=y.most))
theorem zOJ (x y:Slt):Ret Tryz.prog 104 [.agg (zAd x),.agg (zAd y)] [] (bl (zKN x y)) []:=by
 refine zK Tryz.func104 rfl qMx (rs:=[.slot 4]) (by kernel_rfl) ?_;unfold qFD;by_cases h1:x.id=y.id
 ·simp[zAd,h1];refine zR (zDP x.typ y.typ) (by simp[zB]) (by simp) ?_;cases h2:yL x.typ y.typ with
  | true =>
   simp;exact zC 0 (by simp[zKN,h1,h2])
  | false =>
   simp;exact zC 0 (by simp[zKN,h1,h2])
 ·have h3:zCf x.id.a x.id.b x.id.c y.id.a y.id.b y.id.c=false:=by rw[zAX]; exact decide_eq_false h1
  simp[zAd,h3];exact zC 0 (by simp[zKN,h1])
def zRw (x y:Exp):Bool:=decide (x.id=y.id)
theorem zNg (x y:Exp):Ret Tryz.prog 107 [.agg (zF x),.agg (zF y)] [] (bl (zRw x y)) []:=by refine zK Tryz.func107 rfl qMy (rs:=[.slot 4]) (by kernel_rfl) ?_;unfold qFE;simp[zF];exact zC 0 (by simp[zRw])
def zEa (a b:Dfn):Bool:=decide (a.kind=b.kind)&&(zCi zKN a.slots b.slots&&(yL a.res b.res&&(!zBO a.kind||decide (a.body.id=b.body.id))))
theorem zQn (a b:Dfn):Ret Tryz.prog 57 [.agg (zP a),.agg (zP b)] [] (bl (zEa a b)) []:=by
 refine zK Tryz.func57 rfl cSD (rs:=[.slot 4]) (by kernel_rfl) ?_;unfold KSD;by_cases h1:a.kind=b.kind
 ·simp[zP,h1];refine zR (zXu 104 qAX zKN a.slots b.slots fun x _ y _=>zOJ x y) (by simp) (by simp) ?_;cases h2:zCi zKN a.slots b.slots with
  | false =>
   simp;exact zC 0 (by simp[zEa,h1,h2])
  | true =>
   simp[zP];refine zR (zDP a.res b.res) (by simp[zB]) (by simp) ?_;cases h3:yL a.res b.res with
   | false =>
    simp;exact zC 0 (by simp[zEa,h1,h2,h3])
   | true =>
    simp[zP];refine zR (zFS a) (by simp[zP,h1]) (by simp) ?_;cases h4:zBO a.kind with
    | false =>
     simp;exact zC 0 (by rw[h1]at h4; simp[zEa,h1,h2,h3,h4])
    | true =>
     simp[zP];exact zC 0 (by rw[h1]at h4; simp[zEa,h1,h2,h3,h4])
 ·simp[zP,h1];exact zC 0 (by simp[zEa,h1])
def zEb (a b:Exp):Bool:=decide (a.k=b.k)&&(decide (a.n=b.n)&&(decide (a.ref=b.ref)&&(yL a.typ b.typ&&zCi zRw a.kids b.kids)))
theorem zOK (a b:Exp):Ret Tryz.prog 59 [.agg (zF a),.agg (zF b)] [] (bl (zEb a b)) []:=by
 refine zK Tryz.func59 rfl cSN (rs:=[.slot 4]) (by kernel_rfl) ?_;unfold KSN;by_cases h1:a.k=b.k
 ·by_cases h2:a.n=b.n
  ·by_cases h3:a.ref=b.ref
   ·simp[zF,h1,h2,h3];refine zR (zDP a.typ b.typ) (by simp[zB]) (by simp) ?_;cases h4:yL a.typ b.typ with
    | false =>
     simp;exact zC 0 (by simp[zEb,h1,h2,h3,h4])
    | true =>
     simp[zF];refine zR (zXt 107 qAY zRw a.kids b.kids fun x _ y _=>zNg x y) (by simp) (by simp) ?_;simp;exact zC 0 (by simp[zEb,h1,h2,h3,h4])
   ·have h5:zCf a.ref.a a.ref.b a.ref.c b.ref.a b.ref.b b.ref.c=false:=by rw[zAX]; exact decide_eq_false h3
    simp[zF,h1,h2,h5];exact zC 0 (by simp[zEb,h1,h2,h3])
  ·simp[zF,h1,h2];exact zC 0 (by simp[zEb,h1,h2])
 ·simp[zF,h1];exact zC 0 (by simp[zEb,h1])
@[simp] theorem qNs:zA Tryz.prog 177=true:=by kernel_rfl
def zB3 (n:Int):Int:=if 1099511627776<n then 1099511627776 else if n < -1099511627776 then -1099511627776 else n
@[simp] theorem qN5:zA Tryz.prog 176=true:=by kernel_rfl
def zBB (b:Bool):Val:=.mk 1 (if b then 1 else 0) []
end Go.Proofs.YthglhccibdlccaaGreatDoor
