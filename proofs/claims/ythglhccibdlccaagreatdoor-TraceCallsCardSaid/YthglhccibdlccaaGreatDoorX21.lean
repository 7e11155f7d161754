/-
  Types, definitions and nodes are compared.
  Values as data: their cells; size, depth and order.
  slices.Compact at lists of IDs.
-/
import Derived.Test.YthglhccibdlccaaGreatDoorX20
set_option linter.unusedVariables false
set_option linter.unusedSimpArgs false
namespace Go.Proofs.YthglhccibdlccaaGreatDoor
open Go.Abs
def zCp {α : Type}(same : α→α→Bool):List α→List α→Bool
 | [],[]=>true
 | x::a,y::b=>same x y&&zCp same a b
 | _,_=>false
theorem zFn {α : Type}{same : α→α→Bool}:∀{a b:List α},a.length≠b.length→zCp same a b=false
 | [],[],h=>(h rfl).elim
 | x::a,y::b,h=>by simp only[zCp,zFn (a:=a) (b:=b) (by simpa using h),Bool.and_false]
 | [],_::_,_=>rfl
 | _::_,[],_=>rfl
theorem zCy {α : Type}{same : α→α→Bool}:∀{a b:List α} (hl:a.length=b.length),zCp same a b=true↔∀(j:Nat) (h:j<a.length),same a[j] (b[j]'(hl▸h))=true
 | [],[],_=>by simp[zCp]
 | x::a,y::b,hl=>by
  simp only[zCp,Bool.and_eq_true,zCy (a:=a) (b:=b) (by simpa using hl)];constructor
  ·rintro⟨h1,h2⟩ j h;cases j with
   | zero=>exact h1
   | succ j=>exact h2 j (by simpa using h)
  ·intro h;exact⟨h 0 (by simp),fun j hj=>h (j+1) (by simpa using hj)⟩
 | [],_::_,hl=>by simp at hl
 | _::_,[],hl=>by simp at hl
def qHz:K:=G [kMb 6 false] (Z (G [M 10 0,kN 11 10,M 12 1,kN 13 12,kQ 14 11 13 true] (Y 14 (G [kMb 6 false] kr) ks)) (Z (G [M 15 0,kN 16 15,kMi 17 0] (K.block 0 (K.loop (G [kB 18 17 16 .lss] (Z (Y 18 ks (K.exit 0)) (Z (K.block 1 (G [M 19 17,kX 20 15 17 5,J 21 20 5,kZ 8 kz2,M 7 19,S 8 21 5] (G [M 22 1,M 23 7,kX 24 22 23 5,J 25 24 5,kZ 9 kz2,S 9 25 5] (G [M 26 2,J 27 8 5,J 28 9 5,⟨none,.call (some 29) (kt 26) [(kt 27),(kt 28)]⟩,kR 30 29] (Y 30 (G [kMb 6 false] kr) ks))))) (K.ops [kBi 31 17 1 .add,M 17 31]))))))) (G [kMb 6 true] kr)))
theorem qL4:zN Tryz.prog Tryz.f139.ntmps (Tryz.f139.body.getD .skip)=some qHz.erase:=by kernel_rfl
@[simp] theorem qNh:zC Tryz.prog 139=true:=by kernel_rfl
theorem zYo (g:FuncId)(hcal:zC Tryz.prog g=true)(same:Typ→Typ→Bool)(a b:List Typ)(h:∀x∈a,∀y∈b,Ret Tryz.prog g [.agg (zB x),.agg (zB y)] [] (bl (same x y)) []) :
 Ret Tryz.prog 139 [.sl a.length (jJ a),.sl b.length (jJ b),.clo g [] []] [] (bl (zCp same a b)) []:=by
 refine zK Tryz.func139 rfl qL4 (rs:=[.slot 6]) (by kernel_rfl) ?_;unfold qHz;by_cases hab:a.length=b.length
 ·simp[hab];intro hlb;refine qP (S:=Nat) (fun i=>[(1,.sl b.length (jJ b)),(2,.clo g [] []),(15,.sl a.length (jJ a)),(16,int a.length),(17,int i)]) (fun s=>[]) (fun i=>i≤a.length∧∀(j:Nat) (h:j<a.length),j<i→same a[j] (b[j]'(hab▸h))=true) (fun i=>a.length-i) 0 (by simp)
   (zV [] 0 (by simp) (by simp) (by simp) (by simp[hab])) ?_
  rintro i ⟨hi,hn⟩;by_cases hia:i<a.length
  ·have hib:i<b.length:=by omega
   have hla:i*5<a.length*5:=by omega
   have hlb':i*5<b.length*5:=by omega
   simp[hia,hib,zBh hia,zBh hib,hcal,zB];refine zR (h a[i] (List.getElem_mem hia) b[i] (List.getElem_mem hib)) (by simp[zB]) (by simp) ?_;cases hs:same a[i] b[i]with
   | true =>
    simp;exact zW (i+1) ⟨hia,fun j hj hji=>by
     by_cases e:j=i
     ·subst e; exact hs
     ·exact hn j hj (by omega)⟩ (by omega) (zV [] 0 (by simp) (by simp) (by simp) (by simp[qH hib hlb]))
   | false =>
    have hf:zCp same a b=false:=by
     cases hh:zCp same a b with
     | false=>rfl
     | true=>have:=(zCy hab).1 hh i hia; rw[hs]at this; cases this
    simp;exact zA 0 (by simp[hf])
  ·have hil:i=a.length:=by omega
   subst hil;have ht:zCp same a b=true:=(zCy hab).2 fun j hj=>hn j hj hj
   simp;exact zA 0 (by simp[ht])
 ·have hab':¬(a.length:Int)=b.length:=by omega
  simp[hab'];exact fun _ _=>zA 0 (by simp[zFn hab])
def qHK:K:=G [kMb 6 false] (Z (G [M 10 0,kN 11 10,M 12 1,kN 13 12,kQ 14 11 13 true] (Y 14 (G [kMb 6 false] kr) ks)) (Z (G [M 15 0,kN 16 15,kMi 17 0] (K.block 0 (K.loop (G [kB 18 17 16 .lss] (Z (Y 18 ks (K.exit 0)) (Z (K.block 1 (G [M 19 17,kX 20 15 17 11,J 21 20 11,kZ 8 kz5,M 7 19,S 8 21 11] (G [M 22 1,M 23 7,kX 24 22 23 11,J 25 24 11,kZ 9 kz5,S 9 25 11] (G [M 26 2,J 27 8 11,J 28 9 11,⟨none,.call (some 29) (kt 26) [(kt 27),(kt 28)]⟩,kR 30 29] (Y 30 (G [kMb 6 false] kr) ks))))) (K.ops [kBi 31 17 1 .add,M 17 31]))))))) (G [kMb 6 true] kr)))
theorem qNc:zN Tryz.prog Tryz.f106.ntmps (Tryz.f106.body.getD .skip)=some qHK.erase:=by kernel_rfl
@[simp] theorem qM2:zC Tryz.prog 106=true:=by kernel_rfl
theorem zW5 (g:FuncId)(hcal:zC Tryz.prog g=true)(same:Slt→Slt→Bool)(a b:List Slt)(h:∀x∈a,∀y∈b,Ret Tryz.prog g [.agg (yZ x),.agg (yZ y)] [] (bl (same x y)) []) :
 Ret Tryz.prog 106 [.sl a.length (yA a),.sl b.length (yA b),.clo g [] []] [] (bl (zCp same a b)) []:=by
 refine zK Tryz.func106 rfl qNc (rs:=[.slot 6]) (by kernel_rfl) ?_;unfold qHK;by_cases hab:a.length=b.length
 ·simp[hab];intro hlb;refine qP (S:=Nat) (fun i=>[(1,.sl b.length (yA b)),(2,.clo g [] []),(15,.sl a.length (yA a)),(16,int a.length),(17,int i)]) (fun s=>[]) (fun i=>i≤a.length∧∀(j:Nat) (h:j<a.length),j<i→same a[j] (b[j]'(hab▸h))=true) (fun i=>a.length-i) 0 (by simp)
   (zV [] 0 (by simp) (by simp) (by simp) (by simp[hab])) ?_
  rintro i ⟨hi,hn⟩;by_cases hia:i<a.length
  ·have hib:i<b.length:=by omega
   have hla:i*11<a.length*11:=by omega
   have hlb':i*11<b.length*11:=by omega
   simp[hia,hib,qZ hia,qZ hib,hcal,yZ];refine zR (h a[i] (List.getElem_mem hia) b[i] (List.getElem_mem hib)) (by simp[yZ]) (by simp) ?_;cases hs:same a[i] b[i]with
   | true =>
    simp;exact zW (i+1) ⟨hia,fun j hj hji=>by
     by_cases e:j=i
     ·subst e; exact hs
     ·exact hn j hj (by omega)⟩ (by omega) (zV [] 0 (by simp) (by simp) (by simp) (by simp[qH hib hlb]))
   | false =>
    have hf:zCp same a b=false:=by
     cases hh:zCp same a b with
     | false=>rfl
     | true=>have:=(zCy hab).1 hh i hia; rw[hs]at this; cases this
    simp;exact zA 0 (by simp[hf])
  ·have hil:i=a.length:=by omega
   subst hil;have ht:zCp same a b=true:=(zCy hab).2 fun j hj=>hn j hj hj
   simp;exact zA 0 (by simp[ht])
 ·have hab':¬(a.length:Int)=b.length:=by omega
  simp[hab'];exact fun _ _=>zA 0 (by simp[zFn hab])
def qGE:K:=G [kMb 6 false] (Z (G [M 10 0,kN 11 10,M 12 1,kN 13 12,kQ 14 11 13 true] (Y 14 (G [kMb 6 false] kr) ks)) (Z (G [M 15 0,kN 16 15,kMi 17 0] (K.block 0 (K.loop (G [kB 18 17 16 .lss] (Z (Y 18 ks (K.exit 0)) (Z (K.block 1 (G [M 19 17,kX 20 15 17 15,J 21 20 15,kZ 8 kz1,M 7 19,S 8 21 15] (G [M 22 1,M 23 7,kX 24 22 23 15,J 25 24 15,kZ 9 kz1,S 9 25 15] (G [M 26 2,J 27 8 15,J 28 9 15,⟨none,.call (some 29) (kt 26) [(kt 27),(kt 28)]⟩,kR 30 29] (Y 30 (G [kMb 6 false] kr) ks))))) (K.ops [kBi 31 17 1 .add,M 17 31]))))))) (G [kMb 6 true] kr)))
theorem qLB:zN Tryz.prog Tryz.f108.ntmps (Tryz.f108.body.getD .skip)=some qGE.erase:=by kernel_rfl
@[simp] theorem qMi:zC Tryz.prog 108=true:=by kernel_rfl
theorem zXo (g:FuncId)(hcal:zC Tryz.prog g=true)(same:Exp→Exp→Bool)(a b:List Exp)(h:∀x∈a,∀y∈b,Ret Tryz.prog g [.agg (zH x),.agg (zH y)] [] (bl (same x y)) []) :
 Ret Tryz.prog 108 [.sl a.length (qR a),.sl b.length (qR b),.clo g [] []] [] (bl (zCp same a b)) []:=by
 refine zK Tryz.func108 rfl qLB (rs:=[.slot 6]) (by kernel_rfl) ?_;unfold qGE;by_cases hab:a.length=b.length
 ·simp[hab];intro hlb;refine qP (S:=Nat) (fun i=>[(1,.sl b.length (qR b)),(2,.clo g [] []),(15,.sl a.length (qR a)),(16,int a.length),(17,int i)]) (fun s=>[]) (fun i=>i≤a.length∧∀(j:Nat) (h:j<a.length),j<i→same a[j] (b[j]'(hab▸h))=true) (fun i=>a.length-i) 0 (by simp)
   (zV [] 0 (by simp) (by simp) (by simp) (by simp[hab])) ?_
  rintro i ⟨hi,hn⟩;by_cases hia:i<a.length
  ·have hib:i<b.length:=by omega
   have hla:i*15<a.length*15:=by omega
   have hlb':i*15<b.length*15:=by omega
   simp[hia,hib,yE hia,yE hib,hcal,zH];refine zR (h a[i] (List.getElem_mem hia) b[i] (List.getElem_mem hib)) (by simp[zH]) (by simp) ?_;cases hs:same a[i] b[i]with
   | true =>
    simp;exact zW (i+1) ⟨hia,fun j hj hji=>by
     by_cases e:j=i
     ·subst e; exact hs
     ·exact hn j hj (by omega)⟩ (by omega) (zV [] 0 (by simp) (by simp) (by simp) (by simp[qH hib hlb]))
   | false =>
    have hf:zCp same a b=false:=by
     cases hh:zCp same a b with
     | false=>rfl
     | true=>have:=(zCy hab).1 hh i hia; rw[hs]at this; cases this
    simp;exact zA 0 (by simp[hf])
  ·have hil:i=a.length:=by omega
   subst hil;have ht:zCp same a b=true:=(zCy hab).2 fun j hj=>hn j hj hj
   simp;exact zA 0 (by simp[ht])
 ·have hab':¬(a.length:Int)=b.length:=by omega
  simp[hab'];exact fun _ _=>zA 0 (by simp[zFn hab])
inductive Val where
 | mk (k n:Int) (kids:List Val)
def Val.k:Val→Int | .mk k _ _=>k
def Val.n:Val→Int | .mk _ n _=>n
def Val.kids:Val→List Val | .mk _ _ l=>l
mutual
def zIX:Val→A
 | .mk _ _ l=>.sl l.length (zZ l)
def zZ:List Val→List A
 | []=>[]
 | v::l=>.lit (.int .i64 v.k)::.lit (.int .i64 v.n)::zIX v::zZ l
end
def zI (v:Val):List A:=[.lit (.int .i64 v.k),.lit (.int .i64 v.n),.sl v.kids.length (zZ v.kids)]
theorem zVf (v:Val):zIX v=.sl v.kids.length (zZ v.kids):=by cases v; simp only[zIX,Val.kids]
@[simp] theorem qAG:zZ []=[]:=by simp only[zZ]
@[simp] theorem zDF (v:Val)(l:List Val):zZ (v::l)=.lit (.int .i64 v.k)::.lit (.int .i64 v.n)::.sl v.kids.length (zZ v.kids)::zZ l:=by simp only[zZ,zVf]
@[simp] theorem zQc:∀l:List Val,(zZ l).length=l.length*3
 | []=>by simp
 | v::l=>by simp[zQc l]; omega
mutual
theorem zOO:∀v:Val,nrm0 (zIX v)=zIX v∧∀rf g,vw rf g (zIX v)=zIX v
 | .mk k n l=>by have h:=zBJ l;simp only[zIX];exact⟨by simp[h.1],fun rf g=>by simp[h.2]⟩
theorem zBJ:∀l:List Val,jF (zZ l)
 | []=>by simp only[zZ]; exact jF.nil
 | v::l=>by have h:=zOO v;have h':=zBJ l;simp only[zZ];exact⟨by simp[h.1,h'.1],fun rf g=>by simp[h.2,h'.2]⟩
end
@[simp] theorem qAp (l:List Val):jG (zZ l)=zZ l:=(zBJ l).1
@[simp] theorem qE9 {rf g}(l:List Val):vwL rf g (zZ l)=zZ l:=(zBJ l).2 _ _
theorem qY:∀{l:List Val} {i:Nat} (h:i<l.length),(zZ l).drop (i*3)=.lit (.int .i64 l[i].k)::.lit (.int .i64 l[i].n)::.sl l[i].kids.length (zZ l[i].kids)::zZ (l.drop (i+1))
 | v::l,0,h=>by simp
 | v::l,i+1,h=>by
  have e:(i+1)*3=i*3+3:=by omega
  rw[e,zDF]
  simpa using qY (l:=l) (i:=i) (by simpa using h)
mutual
def qE:Val→Nat
 | .mk _ _ l=>1+qS l
def qS:List Val→Nat
 | []=>0
 | v::l=>qE v+qS l
end
theorem zFG:∀{l:List Val} {v:Val},v∈l→qE v≤qS l
 | x::l,v,h=>by
  simp only[qS];rcases List.mem_cons.1 h with rfl | h
  ·omega
  ·have:=zFG h; omega
theorem zAj {v x:Val}(h:x∈v.kids):qE x<qE v:=by
 cases v with
 | mk k n l=>have:=zFG (l:=l) h; simp only[qE]; omega
def zDe:Val→Int
 | .mk _ _ l=>l.attach.foldl (fun s x=>w64 (s+zDe x.1)) 1
termination_by v=>qE v
decreasing_by
 have:=zFG x.2;simp only[qE]; omega
def zJ8 (l:List Val):Int:=l.foldl (fun s x=>w64 (s+zDe x)) 1
theorem zKn (v:Val):zDe v=zJ8 v.kids:=by
 cases v with
 | mk k n l =>
  rw[zDe];simp only[Val.kids,zJ8];rw[List.foldl_attach (f:=fun s x=>w64 (s+zDe x))]
theorem zI1 {l:List Val}{i:Nat}(h:i<l.length):zJ8 (l.take (i+1))=IntKind.i64.wrap (zJ8 (l.take i)+zDe l[i]):=by rw[zJ8,List.take_succ_eq_append_getElem h,List.foldl_append];rfl
def zQk (a b:Int):Int:=if a<b then b else a
def zBO:Val→Int
 | .mk _ _ l=>w64 (l.attach.foldl (fun s x=>zQk s (zBO x.1)) 0+1)
termination_by v=>qE v
decreasing_by
 have:=zFG x.2;simp only[qE]; omega
def zJ7 (l:List Val):Int:=l.foldl (fun s x=>zQk s (zBO x)) 0
theorem zHV (v:Val):zBO v=w64 (zJ7 v.kids+1):=by
 cases v with
 | mk k n l =>
  rw[zBO];simp only[Val.kids,zJ7];rw[List.foldl_attach (f:=fun s x=>zQk s (zBO x))]
theorem zIn {l:List Val}{i:Nat}(h:i<l.length):zJ7 (l.take (i+1))=zQk (zJ7 (l.take i)) (zBO l[i]):=by rw[zJ7,List.take_succ_eq_append_getElem h,List.foldl_append];rfl
def qF3:K:=G [kO 1 0,kMi 2 0] (G [kMi 3 1] (Z (G [kMi 4 0] (K.block 0 (K.loop (Z (G [M 5 4,D 6 1 2,L 7 6 1,kN 8 7,kB 9 5 8 .lss] (Y 9 ks (K.exit 0))) (Z (K.block 1 (K.ops [M 12 3,D 13 1 2,L 14 13 1,M 15 4,kX 16 14 15 3,J 17 16 3,kC 18 121 [(kt 17)],kB 19 12 18 .add,M 3 19])) (K.ops [M 10 4,kBi 11 10 1 .add,M 4 11])))))) (G [M 20 3,M 2 20] kr)))
theorem qN5:zN Tryz.prog Tryz.f121.ntmps (Tryz.f121.body.getD .skip)=some qF3.erase:=by kernel_rfl
@[simp] theorem qLA:zC Tryz.prog 121=true:=by kernel_rfl
theorem zDr (v:Val):Ret Tryz.prog 121 [.agg (zI v)] [] (int (zDe v)) []:=by
 refine zK Tryz.func121 rfl qN5 (rs:=[.slot 2]) (by kernel_rfl) ?_;unfold qF3;simp[zI];refine qP (S:=Nat) (fun i=>[(1,.ptr 0 0),(3,int (zJ8 (v.kids.take i))),(4,int i)]) (fun s=>[.box (zI v)]) (fun i=>i≤v.kids.length) (fun i=>v.kids.length-i) 0 (by simp)
  (zV [0] 0 (by simp) (by simp) (by simp[zI]) (by simp[zJ8])) ?_
 intro i hi;by_cases h:i<v.kids.length
 ·simp[zI,h,qY h];intro hl;refine zR (zDr v.kids[i]) (by simp[zI]) (by simp) ?_;simp;exact zW (i+1) h (by omega) (zV [0] 0 (by simp) (by simp) (by simp[zI]) (by simp[qH h hl,zI1 h]))
 ·have:i=v.kids.length:=by omega
  subst this;simp[zI];exact fun _=>zA 0 (by simp[zKn v])
termination_by qE v
decreasing_by exact zAj (List.getElem_mem _)
def qHO:K:=G [kO 1 0,kMi 2 0] (G [kMi 3 0] (Z (G [kMi 4 0] (K.block 0 (K.loop (Z (G [M 5 4,D 6 1 2,L 7 6 1,kN 8 7,kB 9 5 8 .lss] (Y 9 ks (K.exit 0))) (Z (K.block 1 (K.ops [M 12 3,D 13 1 2,L 14 13 1,M 15 4,kX 16 14 15 3,J 17 16 3,kC 18 122 [(kt 17)],⟨none,.mm (some 19) true [(kt 12),(kt 18)]⟩,M 3 19])) (K.ops [M 10 4,kBi 11 10 1 .add,M 4 11])))))) (G [M 20 3,kBi 21 20 1 .add,M 2 21] kr)))
theorem qNv:zN Tryz.prog Tryz.f122.ntmps (Tryz.f122.body.getD .skip)=some qHO.erase:=by kernel_rfl
@[simp] theorem qND:zC Tryz.prog 122=true:=by kernel_rfl
theorem zCR (v:Val):Ret Tryz.prog 122 [.agg (zI v)] [] (int (zBO v)) []:=by
 refine zK Tryz.func122 rfl qNv (rs:=[.slot 2]) (by kernel_rfl) ?_;unfold qHO;simp[zI];refine qP (S:=Nat) (fun i=>[(1,.ptr 0 0),(3,int (zJ7 (v.kids.take i))),(4,int i)]) (fun s=>[.box (zI v)]) (fun i=>i≤v.kids.length) (fun i=>v.kids.length-i) 0 (by simp)
  (zV [0] 0 (by simp) (by simp) (by simp[zI]) (by simp[zJ7])) ?_
 intro i hi;by_cases h:i<v.kids.length
 ·simp[zI,h,qY h];intro hl;refine zR (zCR v.kids[i]) (by simp[zI]) (by simp) ?_;simp;exact zW (i+1) h (by omega) (zV [0] 0 (by simp) (by simp) (by simp[zI]) (by simp[qH h hl,zIn h,zQk]))
 ·have:i=v.kids.length:=by omega
  subst this;simp[zI];exact fun _=>zA 0 (by simp[zHV v,w64])
termination_by qE v
decreasing_by exact zAj (List.getElem_mem _)
def qFo:K:=G [kO 2 0,kO 3 1,kMi 4 0] (Z (Z (K.dops [(0,0,D 6 2 0),(1,0,L 7 6 1),(2,0,D 8 3 0),(3,0,L 9 8 1),(4,0,kC 10 135 [(kt 7),(kt 9)]),(5,0,D 11 2 1),(6,0,L 12 11 1),(7,0,D 13 3 1),(8,0,L 14 13 1),(9,0,kC 15 135 [(kt 12),(kt 14)]),(10,0,D 16 2 2),(11,0,L 17 16 1),(12,0,kN 18 17),(13,0,D 19 3 2),(14,0,L 20 19 1),(15,0,kN 21 20),(16,0,kC 22 135 [(kt 18),(kt 21)]),(17,0,kd 23 3 1 3 [ki,ki,ki] [(0,1,(kt 10)),(1,1,(kt 15)),(2,1,(kt 22))]),(18,0,kC 24 134 [(kt 23)]),(19,0,M 5 24)]) (G [M 25 5,kQi 26 25 0 true] (Y 26 (G [M 27 5,M 4 27] kr) ks))) (G [D 28 2 2,L 29 28 1,D 30 3 2,L 31 30 1,kC 32 180 [(kt 29),(kt 31),(.func 167)],M 4 32] kr))
theorem qM7:zN Tryz.prog Tryz.f167.ntmps (Tryz.f167.body.getD .skip)=some qFo.erase:=by kernel_rfl
@[simp] theorem qMQ:zC Tryz.prog 167=true:=by kernel_rfl
def qFL:K:=G [kMi 6 0] (Z (G [M 11 0,kN 12 11,kMi 13 0] (K.block 0 (K.loop (G [kB 14 13 12 .lss] (Z (Y 14 ks (K.exit 0)) (Z (K.block 1 (G [M 15 13,kX 16 11 13 3,J 17 16 3,kZ 8 [ki,ki,kl],M 7 15,S 8 17 3] (Z (G [M 18 7,M 19 1,kN 20 19,kB 21 18 20 .geq] (Y 21 (G [kMi 6 1] kr) ks)) (G [M 22 1,M 23 7,kX 24 22 23 3,J 25 24 3,kZ 9 [ki,ki,kl],S 9 25 3] (G [M 26 2,J 27 8 3,J 28 9 3,⟨none,.call (some 29) (kt 26) [(kt 27),(kt 28)]⟩,M 10 29] (G [M 30 10,kQi 31 30 0 true] (Y 31 (G [M 32 10,M 6 32] kr) ks))))))) (K.ops [kBi 33 13 1 .add,M 13 33]))))))) (Z (G [M 34 0,kN 35 34,M 36 1,kN 37 36,kB 38 35 37 .lss] (Y 38 (G [⟨none,.mov (some 6) (kc (-1))⟩] kr) ks)) (G [kMi 6 0] kr)))
theorem qLX:zN Tryz.prog Tryz.f180.ntmps (Tryz.f180.body.getD .skip)=some qFL.erase:=by kernel_rfl
@[simp] theorem qMy:zC Tryz.prog 180=true:=by kernel_rfl
mutual
def zHR:Val→Val→Int
 | .mk k n l,.mk k' n' l'=>if orI [zBB k k',zBB n n',zBB l.length l'.length]≠0 then orI [zBB k k',zBB n n',zBB l.length l'.length] else zC2 l l'
def zC2:List Val→List Val→Int
 | [],[]=>0
 | [],_::_=>-1
 | _::_,[]=>1
 | a::l,b::l'=>if zHR a b≠0 then zHR a b else zC2 l l'
end
def zIG (a b:Val):Int:=orI [zBB a.k b.k,zBB a.n b.n,zBB a.kids.length b.kids.length]
theorem zDl (a b:Val):zHR a b=if zIG a b≠0 then zIG a b else zC2 a.kids b.kids:=by cases a; cases b; rw[zHR]; rfl
theorem zK2 (xs ys:List Val)(h:∀a∈xs,∀b∈ys,Ret Tryz.prog 167 [.agg (zI a),.agg (zI b)] [] (int (zHR a b)) []) :
 Ret Tryz.prog 180 [.sl xs.length (zZ xs),.sl ys.length (zZ ys),.clo 167 [] []] [] (int (zC2 xs ys)) []:=by
 refine zK Tryz.func180 rfl qLX (rs:=[.slot 6]) (by kernel_rfl) ?_;unfold qFL;simp;intro hl;refine qP (S:=Nat) (fun i=>[(0,.sl xs.length (zZ xs)),(1,.sl ys.length (zZ ys)),(2,.clo 167 [] []),(11,.sl xs.length (zZ xs)),(12,int xs.length),(13,int i)]) (fun s=>[])
  (fun i=>i≤xs.length∧i≤ys.length∧zC2 xs ys=zC2 (xs.drop i) (ys.drop i)) (fun i=>xs.length-i) 0 (by simp)
  (zV [] 0 (by simp) (by simp) (by simp) (by simp)) ?_
 rintro i ⟨hi,hi',ho⟩;simp;refine jT (fun h1=>?_) (fun h1=>?_)<;>simp at h1
 ·have hd:xs.drop i=xs[i]::xs.drop (i+1):=List.drop_eq_getElem_cons h1;simp[h1,qY h1];intro hl';refine jT (fun h2=>?_) (fun h2=>?_)<;>simp at h2
  ·simp;have hn:ys.drop i=[]:=List.drop_eq_nil_of_le h2;exact zA 0 (by rw[ho,hd,hn]; simp[zC2])
  ·have hd':ys.drop i=ys[i]::ys.drop (i+1):=List.drop_eq_getElem_cons h2;simp[h2,qY h2];refine zR (h xs[i] (List.getElem_mem _) ys[i] (List.getElem_mem _)) (by simp[zI]) (by simp) ?_;simp;refine jT (fun h3=>?_) (fun h3=>?_)<;>simp at h3
   ·simp;exact zA 0 (by rw[ho,hd,hd']; simp[zC2,h3])
   ·simp;refine zW (i+1) ⟨h1,h2,by rw[ho,hd,hd']; simp[zC2,h3]⟩ (by omega) (zV [] 0 (by simp) (by simp) (by simp) (by simp[qH h1 hl]))
 ·have:i=xs.length:=by omega
  subst this;simp;have hn:xs.drop xs.length=[]:=by simp
  intro _ hl';refine jT (fun h2=>?_) (fun h2=>?_)<;>simp at h2
  ·have hd':ys.drop xs.length=ys[xs.length]::ys.drop (xs.length+1):=List.drop_eq_getElem_cons h2;simp;exact zA 0 (by rw[ho,hn,hd']; simp[zC2])
  ·have hn':ys.drop xs.length=[]:=List.drop_eq_nil_of_le h2;simp;exact zA 0 (by rw[ho,hn,hn']; simp[zC2])
theorem zRv (a b:Val):Ret Tryz.prog 167 [.agg (zI a),.agg (zI b)] [] (int (zHR a b)) []:=by
 refine zK Tryz.func167 rfl qM7 (rs:=[.slot 4]) (by kernel_rfl) ?_;unfold qFo;simp[zI];refine qI (zC7 a.k b.k) (by simp) (by simp) ?_;simp;refine qI (zC7 a.n b.n) (by simp) (by simp) ?_;simp;refine qI (zC7 a.kids.length b.kids.length) (by simp) (by simp) ?_;simp;refine qI (zZY [zBB a.k b.k,zBB a.n b.n,zBB a.kids.length b.kids.length]) (by simp) (by simp) ?_;simp;refine jT (fun h=>?_) (fun h=>?_)<;>simp at h
 ·simp;exact zA 0 (by rw[zDl]; simp[zIG,h])
 ·simp;refine zR (zK2 a.kids b.kids fun x hx y hy=>zRv x y) (by simp) (by simp) ?_;simp;exact zA 0 (by rw[zDl]; simp[zIG,h])
termination_by qE a
decreasing_by exact zAj hx
theorem zMw {a b:Int}(h:a<b):zBB a b = -1:=by simp[zBB,h]
theorem zMT {a b:Int}(h:b<a):zBB a b=1:=by simp[zBB,h,Int.not_lt.2 (Int.le_of_lt h)]
theorem zMz {a b:Int}(h:b≤a)(h':a≤b):zBB a b=0:=by simp[zBB,Int.not_lt.2 h,Int.not_lt.2 h']
def qGp:K:=G [kO 2 0,kO 3 1,kMi 4 0] (G [D 10 2 0,L 11 10 1,D 12 2 1,L 13 12 1,D 14 2 2,L 15 14 1,kN 16 15,kd 17 3 1 3 [ki,ki,ki] [(0,1,(kt 11)),(1,1,(kt 13)),(2,1,(kt 16))],M 5 17] (G [D 18 3 0,L 19 18 1,D 20 3 1,L 21 20 1,D 22 3 2,L 23 22 1,kN 24 23,kd 25 3 1 3 [ki,ki,ki] [(0,1,(kt 19)),(1,1,(kt 21)),(2,1,(kt 24))],M 6 25] (Z (G [kMi 7 0] (K.block 0 (K.loop (Z (G [M 26 7,kBi 27 26 3 .lss] (Y 27 ks (K.exit 0))) (Z (K.block 1 (Z (Z (K.dops [(0,0,M 30 5),(1,0,M 31 7),(2,0,kX 32 30 31 1),(3,0,L 33 32 1),(4,0,M 34 6),(5,0,M 35 7),(6,0,kX 36 34 35 1),(7,0,L 37 36 1),(8,0,kB 38 33 37 .lss)]) (Y 38 (G [⟨none,.mov (some 4) (kc (-1))⟩] kr) ks)) (Z (K.dops [(0,0,M 39 5),(1,0,M 40 7),(2,0,kX 41 39 40 1),(3,0,L 42 41 1),(4,0,M 43 6),(5,0,M 44 7),(6,0,kX 45 43 44 1),(7,0,L 46 45 1),(8,0,kB 47 42 46 .gtr)]) (Y 47 (G [kMi 4 1] kr) ks)))) (K.ops [M 28 7,kBi 29 28 1 .add,M 7 29])))))) (Z (G [kMi 8 0] (K.block 2 (K.loop (Z (G [M 48 8,D 49 2 2,L 50 49 1,kN 51 50,kB 52 48 51 .lss] (Y 52 ks (K.exit 2))) (Z (K.block 3 (Z (K.dops [(0,0,D 55 2 2),(1,0,L 56 55 1),(2,0,M 57 8),(3,0,kX 58 56 57 3),(4,0,J 59 58 3),(5,0,D 60 3 2),(6,0,L 61 60 1),(7,0,M 62 8),(8,0,kX 63 61 62 3),(9,0,J 64 63 3),(10,0,kC 65 15 [(kt 59),(kt 64)]),(11,0,M 9 65)]) (G [M 66 9,kQi 67 66 0 true] (Y 67 (G [M 68 9,M 4 68] kr) ks)))) (K.ops [M 53 8,kBi 54 53 1 .add,M 8 54])))))) (G [kMi 4 0] kr)))))
theorem qL9:zN Tryz.prog Tryz.f15.ntmps (Tryz.f15.body.getD .skip)=some qGp.erase:=by kernel_rfl
@[simp] theorem qMa:zC Tryz.prog 15=true:=by kernel_rfl
theorem zDW (a b:Val):Ret Tryz.prog 15 [.agg (zI a),.agg (zI b)] [] (int (zHR a b)) []:=by
 refine zK Tryz.func15 rfl qL9 (rs:=[.slot 4]) (by kernel_rfl) ?_;unfold qGp;simp[zI];intro hl hl';refine qP (S:=Nat) (fun i=>[(2,.ptr 0 0),(3,.ptr 1 0),(5,.sl 3 [int a.k,int a.n,int a.kids.length]),(6,.sl 3 [int b.k,int b.n,int b.kids.length]),(7,int i)])
  (fun s=>[.box [int a.k,int a.n,.sl a.kids.length (zZ a.kids)],.box [int b.k,int b.n,.sl b.kids.length (zZ b.kids)]])
  (fun i=>i≤3∧zIG a b=orI (([zBB a.k b.k,zBB a.n b.n,zBB a.kids.length b.kids.length]).drop i)) (fun i=>3-i) 0 (by simp[zIG])
  (zV [0,1] 0 (by simp) (by simp) (by simp) (by simp)) ?_
 rintro i ⟨hi,ho⟩;rcases (by omega:i=0∨i=1∨i=2∨i=3)with rfl | rfl | rfl | rfl
 ·simp;refine jT (fun h1=>?_) (fun h1=>?_)<;>simp at h1
  ·simp;exact zA 0 (by rw[zDl,ho]; simp[orI,zMw h1])
  simp;refine jT (fun h2=>?_) (fun h2=>?_)<;>simp at h2
  ·simp;exact zA 0 (by rw[zDl,ho]; simp[orI,zMT h2])
  simp;exact zW 1 ⟨by omega,by rw[ho]; simp[orI,zMz h1 h2]⟩ (by omega) (zV [0,1] 0 (by simp) (by simp) (by simp) (by simp; rfl))
 ·simp;refine jT (fun h1=>?_) (fun h1=>?_)<;>simp at h1
  ·simp;exact zA 0 (by rw[zDl,ho]; simp[orI,zMw h1])
  simp;refine jT (fun h2=>?_) (fun h2=>?_)<;>simp at h2
  ·simp;exact zA 0 (by rw[zDl,ho]; simp[orI,zMT h2])
  simp;exact zW 2 ⟨by omega,by rw[ho]; simp[orI,zMz h1 h2]⟩ (by omega) (zV [0,1] 0 (by simp) (by simp) (by simp) (by simp; rfl))
 ·simp;refine jT (fun h1=>?_) (fun h1=>?_)<;>simp at h1
  ·simp;exact zA 0 (by rw[zDl,ho]; simp[orI,zMw (Int.ofNat_lt.2 h1)])
  simp;refine jT (fun h2=>?_) (fun h2=>?_)<;>simp at h2
  ·simp;exact zA 0 (by rw[zDl,ho]; simp[orI,zMT (Int.ofNat_lt.2 h2)])
  simp;exact zW 3 ⟨by omega,by rw[ho]; simp[orI,zMz (Int.ofNat_le.2 h1) (Int.ofNat_le.2 h2)]⟩ (by omega) (zV [0,1] 0 (by simp) (by simp) (by simp) (by simp; rfl))
 have hlen:a.kids.length=b.kids.length:=by
  have h0:zIG a b=0:=by rw[ho]; rfl
  simp only[zIG,orI]at h0;split at h0<;>try contradiction
  split at h0<;>try contradiction
  split at h0<;>try contradiction
  rename_i _ _ h;simp only[zBB]at h;split at h
  ·cases h
  ·split at h
   ·cases h
   ·omega
 simp;refine qP (S:=Nat) (fun i=>[(2,.ptr 0 0),(3,.ptr 1 0),(8,int i)])
  (fun s=>[.box [int a.k,int a.n,.sl a.kids.length (zZ a.kids)],.box [int b.k,int b.n,.sl b.kids.length (zZ b.kids)]])
  (fun i=>i≤a.kids.length∧zHR a b=zC2 (a.kids.drop i) (b.kids.drop i)) (fun i=>a.kids.length-i) 0 ⟨by omega,by rw[zDl,ho]; simp[orI]⟩
  (zV [0,1] 0 (by simp) (by simp) (by simp) (by simp)) ?_
 rintro i ⟨hi,ho⟩;simp;intro _;refine jT (fun h1=>?_) (fun h1=>?_)<;>simp at h1
 ·have h2:i<b.kids.length:=by omega
  have hd:a.kids.drop i=a.kids[i]::a.kids.drop (i+1):=List.drop_eq_getElem_cons h1;have hd':b.kids.drop i=b.kids[i]::b.kids.drop (i+1):=List.drop_eq_getElem_cons h2;simp[h1,h2,qY h1,qY h2];refine qI (zDW a.kids[i] b.kids[i]) (by simp[zI]) (by simp) ?_;simp;refine jT (fun h3=>?_) (fun h3=>?_)<;>simp at h3
  ·simp;exact zA 0 (by rw[ho,hd,hd']; simp[zC2,h3])
  ·simp;exact zW (i+1) ⟨h1,by rw[ho,hd,hd']; simp[zC2,h3]⟩ (by omega) (zV [0,1] 0 (by simp) (by simp) (by simp) (by simp[qH h1 hl]))
 ·simp;have e1:a.kids.drop i=[]:=List.drop_eq_nil_of_le h1;have e2:b.kids.drop i=[]:=List.drop_eq_nil_of_le (by omega);exact zA 0 (by rw[ho,e1,e2]; simp[zC2])
termination_by qE a
decreasing_by exact zAj (List.getElem_mem _)
theorem zHP {l:List Id}{m:Nat}(h1:1≤m)(h:m<l.length):zAp (l.take (m+1))=if l[m-1]=l[m] then zAp (l.take m) else zAp (l.take m)++[l[m]]:=by
 rw[List.take_succ_eq_append_getElem h,zC9,zGh,zKp];have:(l.take m).getLast?=some l[m-1]:=by rw[List.getLast?_eq_getElem?,List.length_take,Nat.min_eq_left (by omega),List.getElem?_take,if_pos (by omega),List.getElem?_eq_getElem (by omega)]
 rw[this];simp only[Option.some.injEq]
theorem zL3 (l:List Id):(zAp l).length≤l.length:=by
 induction l using zBA with
 | nil=>simp[zAp]
 | snoc l y ih =>
  rw[zC9,zGh];split
  ·simp; omega
  ·simp; omega
theorem zWk {l:List Id}(h:1≤l.length):zAp (l.take 1)=l.take 1:=by
 cases l with
 | nil=>simp at h
 | cons x l=>simp[zAp,zGh]
theorem zYk {l:List Id}{i:Nat}(h1:1≤i)(h:i<l.length)(hd:l[i-1]=l[i]):zAp l≠l:=by
 intro e;have:∀r:List Id,(zAp (l.take (i+1)++r)).length≤i+r.length:=fun r=>by
  induction r using zBA with
  | nil =>
   rw[List.append_nil,zHP h1 h,if_pos hd];have:=zL3 (l.take i);simp at this;simp;omega
  | snoc r y ih =>
   rw[←List.append_assoc,zC9,zGh];split
   ·simp; omega
   ·simp; omega
 have:=this (l.drop (i+1));rw[List.take_append_drop,e]at this;simp at this;omega
theorem zGI:∀{R:List Id} {k:Nat} (x:Id),k<R.length→(zX R).take (k*3)++(.lit (.int .i64 x.a)::.lit (.int .i64 x.b)::.lit (.int .i64 x.c)::(zX R).drop (k*3+3))=zX (R.set k x)
 | v::R,0,x,h=>by simp
 | v::R,k+1,x,h=>by
  have e:(k+1)*3=k*3+3:=by omega
  have:=zGI (R:=R) (k:=k) x (by simpa using h);rw[e,zCL,List.set_cons_succ,zCL,←this];simp
def zC5 (n:Nat):List Id:=List.replicate n Id.zero
theorem zE7:∀n:Nat,zX (zC5 n)=(List.replicate n [A.lit (.int .i64 0),A.lit (.int .i64 0),A.lit (.int .i64 0)]).flatten
 | 0=>rfl
 | n+1=>by have:=zE7 n;simp only[zC5,List.replicate_succ,List.flatten_cons]at this ⊢;rw[←this]; rfl
theorem zVn {R:List Id}{k:Nat}{x:Id}(h:k<R.length):(R.set k x).take (k+1)=R.take k++[x]:=by rw[List.take_set,List.take_succ_eq_append_getElem h,List.set_append_right _ _ (by simp; omega)];simp[Nat.min_eq_left (Nat.le_of_lt h)]
def zPd (l:List Id):A:=if zAp l=l then .row 0 l.length else .win 0 l.length 0 (zAp l).length ((zAp l).length*3)
theorem zPo (l:List Id)(hb:l.length≤1000000):Ret Tryz.prog 97 [.row 0 l.length] [.row false 29 3 l.length (zX l)] (zPd l)
 [.row false 29 3 l.length (zX (zAp l++zC5 (l.length-(zAp l).length)))]:=by
 have hsame:zAp l=l→zX (zAp l++zC5 (l.length-(zAp l).length))=zX l:=fun e=>by rw[e]; simp[zC5]
 refine zK Tryz.func97 rfl zOV (rs:=[.slot 2]) (by kernel_rfl) ?_;unfold zJZ;by_cases h2:l.length<2
 ·have hc:zAp l=l:=by
   match l,h2 with
   | [],_=>rfl
   | [x],_=>simp[zAp,zGh]
  have h2':(l.length:Int)<2:=by omega
  simp[h2'];exact zF [0] 0 (by simp) (by simp) (by simp[hsame hc]) (by simp[zPd,hc])
 ·have h2':¬(l.length:Int)<2:=by omega
  simp[h2'];refine qP (S:=Nat) (fun i=>[(0,.row 0 l.length),(3,int i)]) (fun i=>[.row false 29 3 l.length (zX l)]) (fun i=>1≤i∧i≤l.length∧zAp (l.take i)=l.take i) (fun i=>l.length-i) 1 ⟨by omega,by omega,zWk (by omega)⟩
   (zV [0] 0 (by simp) (by simp) (by simp) (by simp)) ?_
  rintro i ⟨h1,hi,hc⟩;by_cases h:i<l.length
  ·have hi1:i-1<l.length:=by omega
   have hw:IntKind.i64.wrap ((i:Int)-1)=((i-1:Nat):Int):=by rw[Int.ofNat_sub h1]; exact IntWalk.i64_in _ (by omega)
   have hn1:¬(l.length*3<i*3+3):=by omega
   have hl1:i*3+3≤l.length*3:=by omega
   have hl2:(i-1)*3+3≤l.length*3:=by omega
   have hct:=zHP h1 h;by_cases hd:l[i-1]=l[i]
   ·rw[if_pos hd,hc]at hct;have hne:=zYk h1 h hd;have hd3:zCh l[i].a l[i].b l[i].c l[i-1].a l[i-1].b l[i-1].c=true:=by rw[zA6]; simp[hd]
    simp[h,hw,hl1,hl2,hi1,jL h,jL hi1,hd3];refine⟨hi,?_⟩;refine qP (S:=Nat×Nat×List Id) (fun s=>[(0,.row 0 l.length),(3,int s.1),(4,.win 0 l.length (i*3) (l.length-i) ((l.length-i)*3)),(5,int s.2.1)]) (fun s=>[.row false 29 3 l.length (zX s.2.2)])
     (fun s=>s.2.2.length=l.length∧1≤s.2.1∧i+s.2.1≤l.length∧s.1+1≤i+s.2.1∧(zAp (l.take (i+s.2.1))).length=s.1∧s.2.2.take s.1=zAp (l.take (i+s.2.1))∧s.2.2.drop (i+s.2.1-1)=l.drop (i+s.2.1-1))
     (fun s=>l.length-(i+s.2.1)) (i,1,l) ⟨rfl,Nat.le_refl _,h,by simp,by simp[hct]; omega,by simp[hct],rfl⟩
     (zV [0] 0 (by simp) (by simp) (by simp) (by simp)) ?_
    rintro⟨k,j,R⟩ ⟨r1,r2,r3,r4,r5,r6,r7⟩;simp only at r1 r2 r3 r4 r5 r6 r7;simp only;have hsub:(l.length:Int)-i=((l.length-i:Nat):Int):=by omega
    have hwj:IntKind.i64.wrap ((j:Int)-1)=((j-1:Nat):Int):=by rw[Int.ofNat_sub r2]; exact IntWalk.i64_in _ (by omega)
    have hwj1:IntKind.i64.wrap ((j:Int)+1)=((j+1:Nat):Int):=by push_cast; exact IntWalk.i64_in _ (by omega)
    have hwk1:IntKind.i64.wrap ((k:Int)+1)=((k+1:Nat):Int):=by push_cast; exact IntWalk.i64_in _ (by omega)
    by_cases hj:i+j<l.length
    ·have hjR:i+j<R.length:=by omega
     have hj1R:i+j-1<R.length:=by omega
     have hkR:k<R.length:=by omega
     have hR:R[i+j]=l[i+j]:=by have:=congrArg (fun x:List Id=>x[1]?) r7;simp only[List.getElem?_drop]at this;rw[show i+j-1+1=i+j by omega,List.getElem?_eq_getElem hjR,List.getElem?_eq_getElem hj]at this;exact Option.some.inj this
     have hR1:R[i+j-1]=l[i+j-1]:=by have:=congrArg (fun x:List Id=>x[0]?) r7;simp only[List.getElem?_drop]at this;rw[show i+j-1+0=i+j-1 by omega,List.getElem?_eq_getElem hj1R,List.getElem?_eq_getElem (by omega)]at this;exact Option.some.inj this
     have e0:i*3+j*3=(i+j)*3:=by omega
     have e1:i*3+(j-1)*3=(i+j-1)*3:=by omega
     have hjlt:j<l.length-i:=by omega
     have hjlt1:j-1<l.length-i:=by omega
     have hb0:(i+j)*3+3≤l.length*3:=by omega
     have hb1:(i+j-1)*3+3≤l.length*3:=by omega
     have hbk:k*3+3≤l.length*3:=by omega
     have hkl:k<l.length:=by omega
     have hct2:=zHP (l:=l) (m:=i+j) (by omega) hj;by_cases hd2:l[i+j-1]=l[i+j]
     ·rw[if_pos hd2]at hct2;have hs3:zCh R[i+j].a R[i+j].b R[i+j].c R[i+j-1].a R[i+j-1].b R[i+j-1].c=true:=by rw[zA6,hR,hR1,hd2]; simp
      simp[hjlt,hjlt1,hwj,e0,e1,r1,hb0,hb1,jL hjR,jL hj1R,hs3];exact zW (k,j+1,R) ⟨r1,by simp,by simp only; omega,by simp only; omega,by simp only[←Nat.add_assoc,hct2]; exact r5,by simp only[←Nat.add_assoc,hct2]; exact r6,by
       have:=congrArg (fun x:List Id=>x.drop 1) r7;simp only[List.drop_drop]at this;simp only;rw[show i+(j+1)-1=i+j-1+1 by omega];exact this⟩ (by simp only; omega) (zV [0] 0 (by simp) (by simp) (by simp) (by simp[hwj1]))
     ·rw[if_neg hd2]at hct2;have hs3:zCh R[i+j].a R[i+j].b R[i+j].c R[i+j-1].a R[i+j-1].b R[i+j-1].c=false:=by rw[zA6,hR,hR1]; exact decide_eq_false fun e=>hd2 e.symm
      simp[hjlt,hjlt1,hwj,e0,e1,r1,hb0,hb1,hbk,hkl,jL hjR,jL hj1R,hs3,zGI _ hkR];exact zW (k+1,j+1,R.set k l[i+j]) ⟨by simp[r1],by simp,by simp only; omega,by simp only; omega,by simp only[←Nat.add_assoc,hct2,List.length_append,r5]; simp,by
       simp only[←Nat.add_assoc,hct2];rw[zVn hkR,r6],by
       have:=congrArg (fun x:List Id=>x.drop 1) r7;simp only[List.drop_drop]at this;simp only;rw[show i+(j+1)-1=i+j-1+1 by omega,List.drop_set_of_lt (by omega)];exact this⟩ (by simp only; omega) (zV [0] 0 (by simp) (by simp) (by simp[hR]) (by simp[hwj1,hwk1]))
    ·have hij:i+j=l.length:=by omega
     have hj':¬(j:Int)<((l.length-i:Nat):Int):=by omega
     simp[hj',r1];rw[hij,List.take_length]at r5 r6;have e2:k*3+(l.length-k)*3=l.length*3:=by omega
     have hcells:List.take (k*3) (zX R)++((List.replicate (l.length-k) [A.lit (Value.int IntKind.i64 0),A.lit (Value.int IntKind.i64 0),A.lit (Value.int IntKind.i64 0)]).flatten++List.drop (k*3+(l.length-k)*3) (zX R))=zX (zAp l++zC5 (l.length-(zAp l).length)):=by rw[e2,List.drop_of_length_le (by simp[r1]),List.append_nil,zF8,r6,jD,zE7,r5]
     rw[hcells];refine⟨by omega,by omega,by omega,?_⟩;exact zF [0] 0 (by simp) (by simp) (by simp) (by simp[zPd,hne,r5])
   ·rw[if_neg hd,hc]at hct;have hd3:zCh l[i].a l[i].b l[i].c l[i-1].a l[i-1].b l[i-1].c=false:=by rw[zA6]; exact decide_eq_false fun e=>hd e.symm
    simp[h,hw,hl1,hl2,hi1,jL h,jL hi1,hd3];exact zW (i+1) ⟨by omega,h,by rw[hct,List.take_succ_eq_append_getElem h]⟩ (by omega) (zV [0] 0 (by simp) (by simp) (by simp) (by simp[qH h (show l.length≤maxLen by simp[maxLen]; omega)]))
  ·have:i=l.length:=by omega
   subst this;rw[List.take_length]at hc;simp;exact zF [0] 0 (by simp) (by simp) (by simp[hsame hc]) (by simp[zPd,hc])
end Go.Proofs.YthglhccibdlccaaGreatDoor
