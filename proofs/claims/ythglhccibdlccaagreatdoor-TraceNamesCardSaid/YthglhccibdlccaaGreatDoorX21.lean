/-
  Types, definitions and nodes are compared.
  Values as data: their cells; size, depth and order.
  slices.Compact at lists of IDs.
-/
import Derived.Test.YthglhccibdlccaaGreatDoorX20
set_option linter.unusedVariables false
set_option linter.unusedSimpArgs false
namespace Go.Proofs.YthglhccibdlccaaGreatDoor
open Go.Abs
def zB4 {α : Type}(same : α→α→Bool):List α→List α→Bool
 | [],[]=>true
 | x::a,y::b=>same x y&&zB4 same a b
 | _,_=>false
theorem zFc {α : Type}{same : α→α→Bool}:∀{a b:List α},a.length≠b.length→zB4 same a b=false
 | [],[],h=>(h rfl).elim
 | x::a,y::b,h=>by simp only[zB4,zFc (a:=a) (b:=b) (by simpa using h),Bool.and_false]
 | [],_::_,_=>rfl
 | _::_,[],_=>rfl
theorem zCj {α : Type}{same : α→α→Bool}:∀{a b:List α} (hl:a.length=b.length),zB4 same a b=true↔∀(j:Nat) (h:j<a.length),same a[j] (b[j]'(hl▸h))=true
 | [],[],_=>by simp[zB4]
 | x::a,y::b,hl=>by
  simp only[zB4,Bool.and_eq_true,zCj (a:=a) (b:=b) (by simpa using hl)];constructor
  ·rintro⟨h1,h2⟩ j h;cases j with
   | zero=>exact h1
   | succ j=>exact h2 j (by simpa using h)
  ·intro h;exact⟨h 0 (by simp),fun j hj=>h (j+1) (by simpa using hj)⟩
 | [],_::_,hl=>by simp at hl
 | _::_,[],hl=>by simp at hl
def qFX:K:=G [kMb 6 false] (Z (G [M 10 0,kN 11 10,M 12 1,kN 13 12,kQ 14 11 13 true] (Y 14 (G [kMb 6 false] kr) ks)) (Z (G [M 15 0,kN 16 15,kMi 17 0] (K.block 0 (K.loop (G [kB 18 17 16 .lss] (Z (Y 18 ks (K.exit 0)) (Z (K.block 1 (G [M 19 17,kX 20 15 17 5,J 21 20 5,kZ 8 kz2,M 7 19,S 8 21 5] (G [M 22 1,M 23 7,kX 24 22 23 5,J 25 24 5,kZ 9 kz2,S 9 25 5] (G [M 26 2,J 27 8 5,J 28 9 5,⟨none,.call (some 29) (kt 26) [(kt 27),(kt 28)]⟩,kR 30 29] (Y 30 (G [kMb 6 false] kr) ks))))) (K.ops [kBi 31 17 1 .add,M 17 31]))))))) (G [kMb 6 true] kr)))
theorem qM1:zK Tryz.prog Tryz.f139.ntmps (Tryz.f139.body.getD .skip)=some qFX.erase:=by kernel_rfl
@[simp] theorem qNu:zA Tryz.prog 139=true:=by kernel_rfl
theorem zYd (g:FuncId)(hcal:zA Tryz.prog g=true)(same:Typ→Typ→Bool)(a b:List Typ)(h:∀x∈a,∀y∈b,Ret Tryz.prog g [.agg (zB x),.agg (zB y)] [] (bl (same x y)) []) :
 Ret Tryz.prog 139 [.sl a.length (jI a),.sl b.length (jI b),.clo g [] []] [] (bl (zB4 same a b)) []:=by
 refine zH Tryz.func139 rfl qM1 (rs:=[.slot 6]) (by kernel_rfl) ?_;unfold qFX;by_cases hab:a.length=b.length
 ·simp[hab];intro hlb;refine qR (S:=Nat) (fun i=>[(1,.sl b.length (jI b)),(2,.clo g [] []),(15,.sl a.length (jI a)),(16,int a.length),(17,int i)]) (fun s=>[]) (fun i=>i≤a.length∧∀(j:Nat) (h:j<a.length),j<i→same a[j] (b[j]'(hab▸h))=true) (fun i=>a.length-i) 0 (by simp)
   (zP [] 0 (by simp) (by simp) (by simp) (by simp[hab])) ?_
  rintro i ⟨hi,hn⟩;by_cases hia:i<a.length
  ·have hib:i<b.length:=by omega
   have hla:i*5<a.length*5:=by omega
   have hlb':i*5<b.length*5:=by omega
   simp[hia,hib,zCc hia,zCc hib,hcal,zB];refine zR (h a[i] (List.getElem_mem hia) b[i] (List.getElem_mem hib)) (by simp[zB]) (by simp) ?_;cases hs:same a[i] b[i]with
   | true =>
    simp;exact zS (i+1) ⟨hia,fun j hj hji=>by
     by_cases e:j=i
     ·subst e; exact hs
     ·exact hn j hj (by omega)⟩ (by omega) (zP [] 0 (by simp) (by simp) (by simp) (by simp[qA hib hlb]))
   | false =>
    have hf:zB4 same a b=false:=by
     cases hh:zB4 same a b with
     | false=>rfl
     | true=>have:=(zCj hab).1 hh i hia; rw[hs]at this; cases this
    simp;exact zC 0 (by simp[hf])
  ·have hil:i=a.length:=by omega
   subst hil;have ht:zB4 same a b=true:=(zCj hab).2 fun j hj=>hn j hj hj
   simp;exact zC 0 (by simp[ht])
 ·have hab':¬(a.length:Int)=b.length:=by omega
  simp[hab'];exact fun _ _=>zC 0 (by simp[zFc hab])
def qFW:K:=G [kMb 6 false] (Z (G [M 10 0,kN 11 10,M 12 1,kN 13 12,kQ 14 11 13 true] (Y 14 (G [kMb 6 false] kr) ks)) (Z (G [M 15 0,kN 16 15,kMi 17 0] (K.block 0 (K.loop (G [kB 18 17 16 .lss] (Z (Y 18 ks (K.exit 0)) (Z (K.block 1 (G [M 19 17,kX 20 15 17 11,J 21 20 11,kZ 8 kz5,M 7 19,S 8 21 11] (G [M 22 1,M 23 7,kX 24 22 23 11,J 25 24 11,kZ 9 kz5,S 9 25 11] (G [M 26 2,J 27 8 11,J 28 9 11,⟨none,.call (some 29) (kt 26) [(kt 27),(kt 28)]⟩,kR 30 29] (Y 30 (G [kMb 6 false] kr) ks))))) (K.ops [kBi 31 17 1 .add,M 17 31]))))))) (G [kMb 6 true] kr)))
theorem qM0:zK Tryz.prog Tryz.f106.ntmps (Tryz.f106.body.getD .skip)=some qFW.erase:=by kernel_rfl
@[simp] theorem qNt:zA Tryz.prog 106=true:=by kernel_rfl
theorem zYc (g:FuncId)(hcal:zA Tryz.prog g=true)(same:Slt→Slt→Bool)(a b:List Slt)(h:∀x∈a,∀y∈b,Ret Tryz.prog g [.agg (zAh x),.agg (zAh y)] [] (bl (same x y)) []) :
 Ret Tryz.prog 106 [.sl a.length (jC a),.sl b.length (jC b),.clo g [] []] [] (bl (zB4 same a b)) []:=by
 refine zH Tryz.func106 rfl qM0 (rs:=[.slot 6]) (by kernel_rfl) ?_;unfold qFW;by_cases hab:a.length=b.length
 ·simp[hab];intro hlb;refine qR (S:=Nat) (fun i=>[(1,.sl b.length (jC b)),(2,.clo g [] []),(15,.sl a.length (jC a)),(16,int a.length),(17,int i)]) (fun s=>[]) (fun i=>i≤a.length∧∀(j:Nat) (h:j<a.length),j<i→same a[j] (b[j]'(hab▸h))=true) (fun i=>a.length-i) 0 (by simp)
   (zP [] 0 (by simp) (by simp) (by simp) (by simp[hab])) ?_
  rintro i ⟨hi,hn⟩;by_cases hia:i<a.length
  ·have hib:i<b.length:=by omega
   have hla:i*11<a.length*11:=by omega
   have hlb':i*11<b.length*11:=by omega
   simp[hia,hib,jN hia,jN hib,hcal,zAh];refine zR (h a[i] (List.getElem_mem hia) b[i] (List.getElem_mem hib)) (by simp[zAh]) (by simp) ?_;cases hs:same a[i] b[i]with
   | true =>
    simp;exact zS (i+1) ⟨hia,fun j hj hji=>by
     by_cases e:j=i
     ·subst e; exact hs
     ·exact hn j hj (by omega)⟩ (by omega) (zP [] 0 (by simp) (by simp) (by simp) (by simp[qA hib hlb]))
   | false =>
    have hf:zB4 same a b=false:=by
     cases hh:zB4 same a b with
     | false=>rfl
     | true=>have:=(zCj hab).1 hh i hia; rw[hs]at this; cases this
    simp;exact zC 0 (by simp[hf])
  ·have hil:i=a.length:=by omega
   subst hil;have ht:zB4 same a b=true:=(zCj hab).2 fun j hj=>hn j hj hj
   simp;exact zC 0 (by simp[ht])
 ·have hab':¬(a.length:Int)=b.length:=by omega
  simp[hab'];exact fun _ _=>zC 0 (by simp[zFc hab])
def qFV:K:=G [kMb 6 false] (Z (G [M 10 0,kN 11 10,M 12 1,kN 13 12,kQ 14 11 13 true] (Y 14 (G [kMb 6 false] kr) ks)) (Z (G [M 15 0,kN 16 15,kMi 17 0] (K.block 0 (K.loop (G [kB 18 17 16 .lss] (Z (Y 18 ks (K.exit 0)) (Z (K.block 1 (G [M 19 17,kX 20 15 17 15,J 21 20 15,kZ 8 kz1,M 7 19,S 8 21 15] (G [M 22 1,M 23 7,kX 24 22 23 15,J 25 24 15,kZ 9 kz1,S 9 25 15] (G [M 26 2,J 27 8 15,J 28 9 15,⟨none,.call (some 29) (kt 26) [(kt 27),(kt 28)]⟩,kR 30 29] (Y 30 (G [kMb 6 false] kr) ks))))) (K.ops [kBi 31 17 1 .add,M 17 31]))))))) (G [kMb 6 true] kr)))
theorem qMz:zK Tryz.prog Tryz.f108.ntmps (Tryz.f108.body.getD .skip)=some qFV.erase:=by kernel_rfl
@[simp] theorem qNs:zA Tryz.prog 108=true:=by kernel_rfl
theorem zYb (g:FuncId)(hcal:zA Tryz.prog g=true)(same:Exp→Exp→Bool)(a b:List Exp)(h:∀x∈a,∀y∈b,Ret Tryz.prog g [.agg (zF x),.agg (zF y)] [] (bl (same x y)) []) :
 Ret Tryz.prog 108 [.sl a.length (qL a),.sl b.length (qL b),.clo g [] []] [] (bl (zB4 same a b)) []:=by
 refine zH Tryz.func108 rfl qMz (rs:=[.slot 6]) (by kernel_rfl) ?_;unfold qFV;by_cases hab:a.length=b.length
 ·simp[hab];intro hlb;refine qR (S:=Nat) (fun i=>[(1,.sl b.length (qL b)),(2,.clo g [] []),(15,.sl a.length (qL a)),(16,int a.length),(17,int i)]) (fun s=>[]) (fun i=>i≤a.length∧∀(j:Nat) (h:j<a.length),j<i→same a[j] (b[j]'(hab▸h))=true) (fun i=>a.length-i) 0 (by simp)
   (zP [] 0 (by simp) (by simp) (by simp) (by simp[hab])) ?_
  rintro i ⟨hi,hn⟩;by_cases hia:i<a.length
  ·have hib:i<b.length:=by omega
   have hla:i*15<a.length*15:=by omega
   have hlb':i*15<b.length*15:=by omega
   simp[hia,hib,yJ hia,yJ hib,hcal,zF];refine zR (h a[i] (List.getElem_mem hia) b[i] (List.getElem_mem hib)) (by simp[zF]) (by simp) ?_;cases hs:same a[i] b[i]with
   | true =>
    simp;exact zS (i+1) ⟨hia,fun j hj hji=>by
     by_cases e:j=i
     ·subst e; exact hs
     ·exact hn j hj (by omega)⟩ (by omega) (zP [] 0 (by simp) (by simp) (by simp) (by simp[qA hib hlb]))
   | false =>
    have hf:zB4 same a b=false:=by
     cases hh:zB4 same a b with
     | false=>rfl
     | true=>have:=(zCj hab).1 hh i hia; rw[hs]at this; cases this
    simp;exact zC 0 (by simp[hf])
  ·have hil:i=a.length:=by omega
   subst hil;have ht:zB4 same a b=true:=(zCj hab).2 fun j hj=>hn j hj hj
   simp;exact zC 0 (by simp[ht])
 ·have hab':¬(a.length:Int)=b.length:=by omega
  simp[hab'];exact fun _ _=>zC 0 (by simp[zFc hab])
inductive Val where
 | mk (k n:Int) (kids:List Val)
def Val.k:Val→Int | .mk k _ _=>k
def Val.n:Val→Int | .mk _ n _=>n
def Val.kids:Val→List Val | .mk _ _ l=>l
mutual
def zIB:Val→A
 | .mk _ _ l=>.sl l.length (zW l)
def zW:List Val→List A
 | []=>[]
 | v::l=>.lit (.int .i64 v.k)::.lit (.int .i64 v.n)::zIB v::zW l
end
def zQ (v:Val):List A:=[.lit (.int .i64 v.k),.lit (.int .i64 v.n),.sl v.kids.length (zW v.kids)]
theorem zVb (v:Val):zIB v=.sl v.kids.length (zW v.kids):=by cases v; simp only[zIB,Val.kids]
@[simp] theorem qCb:zW []=[]:=by simp only[zW]
@[simp] theorem zNQ (v:Val)(l:List Val):zW (v::l)=.lit (.int .i64 v.k)::.lit (.int .i64 v.n)::.sl v.kids.length (zW v.kids)::zW l:=by simp only[zW,zVb]
@[simp] theorem zPO:∀l:List Val,(zW l).length=l.length*3
 | []=>by simp
 | v::l=>by simp[zPO l]; omega
mutual
theorem zNK:∀v:Val,nrm0 (zIB v)=zIB v∧∀rf g,vw rf g (zIB v)=zIB v
 | .mk k n l=>by have h:=zBF l;simp only[zIB];exact⟨by simp[h.1],fun rf g=>by simp[h.2]⟩
theorem zBF:∀l:List Val,qX (zW l)
 | []=>by simp only[zW]; exact qX.nil
 | v::l=>by have h:=zNK v;have h':=zBF l;simp only[zW];exact⟨by simp[h.1,h'.1],fun rf g=>by simp[h.2,h'.2]⟩
end
@[simp] theorem qAK (l:List Val):qU (zW l)=zW l:=(zBF l).1
@[simp] theorem qFm {rf g}(l:List Val):vwL rf g (zW l)=zW l:=(zBF l).2 _ _
theorem jY:∀{l:List Val} {i:Nat} (h:i<l.length),(zW l).drop (i*3)=.lit (.int .i64 l[i].k)::.lit (.int .i64 l[i].n)::.sl l[i].kids.length (zW l[i].kids)::zW (l.drop (i+1))
 | v::l,0,h=>by simp
 | v::l,i+1,h=>by
  have e:(i+1)*3=i*3+3:=by omega
  rw[e,zNQ]
  simpa using jY (l:=l) (i:=i) (by simpa using h)
mutual
def qC:Val→Nat
 | .mk _ _ l=>1+qN l
def qN:List Val→Nat
 | []=>0
 | v::l=>qC v+qN l
end
theorem zFS:∀{l:List Val} {v:Val},v∈l→qC v≤qN l
 | x::l,v,h=>by
  simp only[qN];rcases List.mem_cons.1 h with rfl | h
  ·omega
  ·have:=zFS h; omega
theorem zAw {v x:Val}(h:x∈v.kids):qC x<qC v:=by
 cases v with
 | mk k n l=>have:=zFS (l:=l) h; simp only[qC]; omega
def zDQ:Val→Int
 | .mk _ _ l=>l.attach.foldl (fun s x=>w64 (s+zDQ x.1)) 1
termination_by v=>qC v
decreasing_by
 have:=zFS x.2;simp only[qC]; omega
def zKQ (l:List Val):Int:=l.foldl (fun s x=>w64 (s+zDQ x)) 1
theorem zKM (v:Val):zDQ v=zKQ v.kids:=by
 cases v with
 | mk k n l =>
  rw[zDQ];simp only[Val.kids,zKQ];rw[List.foldl_attach (f:=fun s x=>w64 (s+zDQ x))]
theorem zI0 {l:List Val}{i:Nat}(h:i<l.length):zKQ (l.take (i+1))=IntKind.i64.wrap (zKQ (l.take i)+zDQ l[i]):=by rw[zKQ,List.take_succ_eq_append_getElem h,List.foldl_append];rfl
def zQ1 (a b:Int):Int:=if a<b then b else a
def zCm:Val→Int
 | .mk _ _ l=>w64 (l.attach.foldl (fun s x=>zQ1 s (zCm x.1)) 0+1)
termination_by v=>qC v
decreasing_by
 have:=zFS x.2;simp only[qC]; omega
def zKl (l:List Val):Int:=l.foldl (fun s x=>zQ1 s (zCm x)) 0
theorem zHQ (v:Val):zCm v=w64 (zKl v.kids+1):=by
 cases v with
 | mk k n l =>
  rw[zCm];simp only[Val.kids,zKl];rw[List.foldl_attach (f:=fun s x=>zQ1 s (zCm x))]
theorem zIe {l:List Val}{i:Nat}(h:i<l.length):zKl (l.take (i+1))=zQ1 (zKl (l.take i)) (zCm l[i]):=by rw[zKl,List.take_succ_eq_append_getElem h,List.foldl_append];rfl
def qGn:K:=G [kO 1 0,kMi 2 0] (G [kMi 3 1] (Z (G [kMi 4 0] (K.block 0 (K.loop (Z (G [M 5 4,D 6 1 2,L 7 6 1,kN 8 7,kB 9 5 8 .lss] (Y 9 ks (K.exit 0))) (Z (K.block 1 (K.ops [M 12 3,D 13 1 2,L 14 13 1,M 15 4,kX 16 14 15 3,J 17 16 3,kC 18 121 [(kt 17)],kB 19 12 18 .add,M 3 19])) (K.ops [M 10 4,kBi 11 10 1 .add,M 4 11])))))) (G [M 20 3,M 2 20] kr)))
theorem qMH:zK Tryz.prog Tryz.f121.ntmps (Tryz.f121.body.getD .skip)=some qGn.erase:=by kernel_rfl
@[simp] theorem qNL:zA Tryz.prog 121=true:=by kernel_rfl
theorem zK9 (v:Val):Ret Tryz.prog 121 [.agg (zQ v)] [] (int (zDQ v)) []:=by
 refine zH Tryz.func121 rfl qMH (rs:=[.slot 2]) (by kernel_rfl) ?_;unfold qGn;simp[zQ];refine qR (S:=Nat) (fun i=>[(1,.ptr 0 0),(3,int (zKQ (v.kids.take i))),(4,int i)]) (fun s=>[.box (zQ v)]) (fun i=>i≤v.kids.length) (fun i=>v.kids.length-i) 0 (by simp)
  (zP [0] 0 (by simp) (by simp) (by simp[zQ]) (by simp[zKQ])) ?_
 intro i hi;by_cases h:i<v.kids.length
 ·simp[zQ,h,jY h];intro hl;refine zR (zK9 v.kids[i]) (by simp[zQ]) (by simp) ?_;simp;exact zS (i+1) h (by omega) (zP [0] 0 (by simp) (by simp) (by simp[zQ]) (by simp[qA h hl,zI0 h]))
 ·have:i=v.kids.length:=by omega
  subst this;simp[zQ];exact fun _=>zC 0 (by simp[zKM v])
termination_by qC v
decreasing_by exact zAw (List.getElem_mem _)
def qGk:K:=G [kO 1 0,kMi 2 0] (G [kMi 3 0] (Z (G [kMi 4 0] (K.block 0 (K.loop (Z (G [M 5 4,D 6 1 2,L 7 6 1,kN 8 7,kB 9 5 8 .lss] (Y 9 ks (K.exit 0))) (Z (K.block 1 (K.ops [M 12 3,D 13 1 2,L 14 13 1,M 15 4,kX 16 14 15 3,J 17 16 3,kC 18 122 [(kt 17)],⟨none,.mm (some 19) true [(kt 12),(kt 18)]⟩,M 3 19])) (K.ops [M 10 4,kBi 11 10 1 .add,M 4 11])))))) (G [M 20 3,kBi 21 20 1 .add,M 2 21] kr)))
theorem qME:zK Tryz.prog Tryz.f122.ntmps (Tryz.f122.body.getD .skip)=some qGk.erase:=by kernel_rfl
@[simp] theorem qNB:zA Tryz.prog 122=true:=by kernel_rfl
theorem zIV (v:Val):Ret Tryz.prog 122 [.agg (zQ v)] [] (int (zCm v)) []:=by
 refine zH Tryz.func122 rfl qME (rs:=[.slot 2]) (by kernel_rfl) ?_;unfold qGk;simp[zQ];refine qR (S:=Nat) (fun i=>[(1,.ptr 0 0),(3,int (zKl (v.kids.take i))),(4,int i)]) (fun s=>[.box (zQ v)]) (fun i=>i≤v.kids.length) (fun i=>v.kids.length-i) 0 (by simp)
  (zP [0] 0 (by simp) (by simp) (by simp[zQ]) (by simp[zKl])) ?_
 intro i hi;by_cases h:i<v.kids.length
 ·simp[zQ,h,jY h];intro hl;refine zR (zIV v.kids[i]) (by simp[zQ]) (by simp) ?_;simp;exact zS (i+1) h (by omega) (zP [0] 0 (by simp) (by simp) (by simp[zQ]) (by simp[qA h hl,zIe h,zQ1]))
 ·have:i=v.kids.length:=by omega
  subst this;simp[zQ];exact fun _=>zC 0 (by simp[zHQ v,w64])
termination_by qC v
decreasing_by exact zAw (List.getElem_mem _)
def qG3:K:=G [kO 2 0,kO 3 1,kMi 4 0] (Z (Z (K.dops [(0,0,D 6 2 0),(1,0,L 7 6 1),(2,0,D 8 3 0),(3,0,L 9 8 1),(4,0,kC 10 135 [(kt 7),(kt 9)]),(5,0,D 11 2 1),(6,0,L 12 11 1),(7,0,D 13 3 1),(8,0,L 14 13 1),(9,0,kC 15 135 [(kt 12),(kt 14)]),(10,0,D 16 2 2),(11,0,L 17 16 1),(12,0,kN 18 17),(13,0,D 19 3 2),(14,0,L 20 19 1),(15,0,kN 21 20),(16,0,kC 22 135 [(kt 18),(kt 21)]),(17,0,kd 23 3 1 3 [ki,ki,ki] [(0,1,(kt 10)),(1,1,(kt 15)),(2,1,(kt 22))]),(18,0,kC 24 134 [(kt 23)]),(19,0,M 5 24)]) (G [M 25 5,kQi 26 25 0 true] (Y 26 (G [M 27 5,M 4 27] kr) ks))) (G [D 28 2 2,L 29 28 1,D 30 3 2,L 31 30 1,kC 32 180 [(kt 29),(kt 31),(.func 167)],M 4 32] kr))
theorem qMX:zK Tryz.prog Tryz.f167.ntmps (Tryz.f167.body.getD .skip)=some qG3.erase:=by kernel_rfl
@[simp] theorem qOp:zA Tryz.prog 167=true:=by kernel_rfl
def qG2:K:=G [kMi 6 0] (Z (G [M 11 0,kN 12 11,kMi 13 0] (K.block 0 (K.loop (G [kB 14 13 12 .lss] (Z (Y 14 ks (K.exit 0)) (Z (K.block 1 (G [M 15 13,kX 16 11 13 3,J 17 16 3,kZ 8 [ki,ki,kl],M 7 15,S 8 17 3] (Z (G [M 18 7,M 19 1,kN 20 19,kB 21 18 20 .geq] (Y 21 (G [kMi 6 1] kr) ks)) (G [M 22 1,M 23 7,kX 24 22 23 3,J 25 24 3,kZ 9 [ki,ki,kl],S 9 25 3] (G [M 26 2,J 27 8 3,J 28 9 3,⟨none,.call (some 29) (kt 26) [(kt 27),(kt 28)]⟩,M 10 29] (G [M 30 10,kQi 31 30 0 true] (Y 31 (G [M 32 10,M 6 32] kr) ks))))))) (K.ops [kBi 33 13 1 .add,M 13 33]))))))) (Z (G [M 34 0,kN 35 34,M 36 1,kN 37 36,kB 38 35 37 .lss] (Y 38 (G [⟨none,.mov (some 6) (kc (-1))⟩] kr) ks)) (G [kMi 6 0] kr)))
theorem qMW:zK Tryz.prog Tryz.f180.ntmps (Tryz.f180.body.getD .skip)=some qG2.erase:=by kernel_rfl
@[simp] theorem qOo:zA Tryz.prog 180=true:=by kernel_rfl
mutual
def zJf:Val→Val→Int
 | .mk k n l,.mk k' n' l'=>if orI [zBA k k',zBA n n',zBA l.length l'.length]≠0 then orI [zBA k k',zBA n n',zBA l.length l'.length] else zCx l l'
def zCx:List Val→List Val→Int
 | [],[]=>0
 | [],_::_=>-1
 | _::_,[]=>1
 | a::l,b::l'=>if zJf a b≠0 then zJf a b else zCx l l'
end
def zIN (a b:Val):Int:=orI [zBA a.k b.k,zBA a.n b.n,zBA a.kids.length b.kids.length]
theorem zDf (a b:Val):zJf a b=if zIN a b≠0 then zIN a b else zCx a.kids b.kids:=by cases a; cases b; rw[zJf]; rfl
theorem zJC (xs ys:List Val)(h:∀a∈xs,∀b∈ys,Ret Tryz.prog 167 [.agg (zQ a),.agg (zQ b)] [] (int (zJf a b)) []) :
 Ret Tryz.prog 180 [.sl xs.length (zW xs),.sl ys.length (zW ys),.clo 167 [] []] [] (int (zCx xs ys)) []:=by
 refine zH Tryz.func180 rfl qMW (rs:=[.slot 6]) (by kernel_rfl) ?_;unfold qG2;simp;intro hl;refine qR (S:=Nat) (fun i=>[(0,.sl xs.length (zW xs)),(1,.sl ys.length (zW ys)),(2,.clo 167 [] []),(11,.sl xs.length (zW xs)),(12,int xs.length),(13,int i)]) (fun s=>[])
  (fun i=>i≤xs.length∧i≤ys.length∧zCx xs ys=zCx (xs.drop i) (ys.drop i)) (fun i=>xs.length-i) 0 (by simp)
  (zP [] 0 (by simp) (by simp) (by simp) (by simp)) ?_
 rintro i ⟨hi,hi',ho⟩;simp;refine jS (fun h1=>?_) (fun h1=>?_)<;>simp at h1
 ·have hd:xs.drop i=xs[i]::xs.drop (i+1):=List.drop_eq_getElem_cons h1;simp[h1,jY h1];intro hl';refine jS (fun h2=>?_) (fun h2=>?_)<;>simp at h2
  ·simp;have hn:ys.drop i=[]:=List.drop_eq_nil_of_le h2;exact zC 0 (by rw[ho,hd,hn]; simp[zCx])
  ·have hd':ys.drop i=ys[i]::ys.drop (i+1):=List.drop_eq_getElem_cons h2;simp[h2,jY h2];refine zR (h xs[i] (List.getElem_mem _) ys[i] (List.getElem_mem _)) (by simp[zQ]) (by simp) ?_;simp;refine jS (fun h3=>?_) (fun h3=>?_)<;>simp at h3
   ·simp;exact zC 0 (by rw[ho,hd,hd']; simp[zCx,h3])
   ·simp;refine zS (i+1) ⟨h1,h2,by rw[ho,hd,hd']; simp[zCx,h3]⟩ (by omega) (zP [] 0 (by simp) (by simp) (by simp) (by simp[qA h1 hl]))
 ·have:i=xs.length:=by omega
  subst this;simp;have hn:xs.drop xs.length=[]:=by simp
  intro _ hl';refine jS (fun h2=>?_) (fun h2=>?_)<;>simp at h2
  ·have hd':ys.drop xs.length=ys[xs.length]::ys.drop (xs.length+1):=List.drop_eq_getElem_cons h2;simp;exact zC 0 (by rw[ho,hn,hd']; simp[zCx])
  ·have hn':ys.drop xs.length=[]:=List.drop_eq_nil_of_le h2;simp;exact zC 0 (by rw[ho,hn,hn']; simp[zCx])
theorem zRw (a b:Val):Ret Tryz.prog 167 [.agg (zQ a),.agg (zQ b)] [] (int (zJf a b)) []:=by
 refine zH Tryz.func167 rfl qMX (rs:=[.slot 4]) (by kernel_rfl) ?_;unfold qG3;simp[zQ];refine qM (zC5 a.k b.k) (by simp) (by simp) ?_;simp;refine qM (zC5 a.n b.n) (by simp) (by simp) ?_;simp;refine qM (zC5 a.kids.length b.kids.length) (by simp) (by simp) ?_;simp;refine qM (qAP [zBA a.k b.k,zBA a.n b.n,zBA a.kids.length b.kids.length]) (by simp) (by simp) ?_;simp;refine jS (fun h=>?_) (fun h=>?_)<;>simp at h
 ·simp;exact zC 0 (by rw[zDf]; simp[zIN,h])
 ·simp;refine zR (zJC a.kids b.kids fun x hx y hy=>zRw x y) (by simp) (by simp) ?_;simp;exact zC 0 (by rw[zDf]; simp[zIN,h])
termination_by qC a
decreasing_by exact zAw hx
theorem zMK {a b:Int}(h:a<b):zBA a b = -1:=by simp[zBA,h]
theorem zMJ {a b:Int}(h:b<a):zBA a b=1:=by simp[zBA,h,Int.not_lt.2 (Int.le_of_lt h)]
theorem zMI {a b:Int}(h:b≤a)(h':a≤b):zBA a b=0:=by simp[zBA,Int.not_lt.2 h,Int.not_lt.2 h']
def qGj:K:=G [kO 2 0,kO 3 1,kMi 4 0] (G [D 10 2 0,L 11 10 1,D 12 2 1,L 13 12 1,D 14 2 2,L 15 14 1,kN 16 15,kd 17 3 1 3 [ki,ki,ki] [(0,1,(kt 11)),(1,1,(kt 13)),(2,1,(kt 16))],M 5 17] (G [D 18 3 0,L 19 18 1,D 20 3 1,L 21 20 1,D 22 3 2,L 23 22 1,kN 24 23,kd 25 3 1 3 [ki,ki,ki] [(0,1,(kt 19)),(1,1,(kt 21)),(2,1,(kt 24))],M 6 25] (Z (G [kMi 7 0] (K.block 0 (K.loop (Z (G [M 26 7,kBi 27 26 3 .lss] (Y 27 ks (K.exit 0))) (Z (K.block 1 (Z (Z (K.dops [(0,0,M 30 5),(1,0,M 31 7),(2,0,kX 32 30 31 1),(3,0,L 33 32 1),(4,0,M 34 6),(5,0,M 35 7),(6,0,kX 36 34 35 1),(7,0,L 37 36 1),(8,0,kB 38 33 37 .lss)]) (Y 38 (G [⟨none,.mov (some 4) (kc (-1))⟩] kr) ks)) (Z (K.dops [(0,0,M 39 5),(1,0,M 40 7),(2,0,kX 41 39 40 1),(3,0,L 42 41 1),(4,0,M 43 6),(5,0,M 44 7),(6,0,kX 45 43 44 1),(7,0,L 46 45 1),(8,0,kB 47 42 46 .gtr)]) (Y 47 (G [kMi 4 1] kr) ks)))) (K.ops [M 28 7,kBi 29 28 1 .add,M 7 29])))))) (Z (G [kMi 8 0] (K.block 2 (K.loop (Z (G [M 48 8,D 49 2 2,L 50 49 1,kN 51 50,kB 52 48 51 .lss] (Y 52 ks (K.exit 2))) (Z (K.block 3 (Z (K.dops [(0,0,D 55 2 2),(1,0,L 56 55 1),(2,0,M 57 8),(3,0,kX 58 56 57 3),(4,0,J 59 58 3),(5,0,D 60 3 2),(6,0,L 61 60 1),(7,0,M 62 8),(8,0,kX 63 61 62 3),(9,0,J 64 63 3),(10,0,kC 65 15 [(kt 59),(kt 64)]),(11,0,M 9 65)]) (G [M 66 9,kQi 67 66 0 true] (Y 67 (G [M 68 9,M 4 68] kr) ks)))) (K.ops [M 53 8,kBi 54 53 1 .add,M 8 54])))))) (G [kMi 4 0] kr)))))
theorem qMD:zK Tryz.prog Tryz.f15.ntmps (Tryz.f15.body.getD .skip)=some qGj.erase:=by kernel_rfl
@[simp] theorem qNA:zA Tryz.prog 15=true:=by kernel_rfl
theorem zGl (a b:Val):Ret Tryz.prog 15 [.agg (zQ a),.agg (zQ b)] [] (int (zJf a b)) []:=by
 refine zH Tryz.func15 rfl qMD (rs:=[.slot 4]) (by kernel_rfl) ?_;unfold qGj;simp[zQ];intro hl hl';refine qR (S:=Nat) (fun i=>[(2,.ptr 0 0),(3,.ptr 1 0),(5,.sl 3 [int a.k,int a.n,int a.kids.length]),(6,.sl 3 [int b.k,int b.n,int b.kids.length]),(7,int i)])
  (fun s=>[.box [int a.k,int a.n,.sl a.kids.length (zW a.kids)],.box [int b.k,int b.n,.sl b.kids.length (zW b.kids)]])
  (fun i=>i≤3∧zIN a b=orI (([zBA a.k b.k,zBA a.n b.n,zBA a.kids.length b.kids.length]).drop i)) (fun i=>3-i) 0 (by simp[zIN])
  (zP [0,1] 0 (by simp) (by simp) (by simp) (by simp)) ?_
 rintro i ⟨hi,ho⟩;rcases (by omega:i=0∨i=1∨i=2∨i=3)with rfl | rfl | rfl | rfl
 ·simp;refine jS (fun h1=>?_) (fun h1=>?_)<;>simp at h1
  ·simp;exact zC 0 (by rw[zDf,ho]; simp[orI,zMK h1])
  simp;refine jS (fun h2=>?_) (fun h2=>?_)<;>simp at h2
  ·simp;exact zC 0 (by rw[zDf,ho]; simp[orI,zMJ h2])
  simp;exact zS 1 ⟨by omega,by rw[ho]; simp[orI,zMI h1 h2]⟩ (by omega) (zP [0,1] 0 (by simp) (by simp) (by simp) (by simp; rfl))
 ·simp;refine jS (fun h1=>?_) (fun h1=>?_)<;>simp at h1
  ·simp;exact zC 0 (by rw[zDf,ho]; simp[orI,zMK h1])
  simp;refine jS (fun h2=>?_) (fun h2=>?_)<;>simp at h2
  ·simp;exact zC 0 (by rw[zDf,ho]; simp[orI,zMJ h2])
  simp;exact zS 2 ⟨by omega,by rw[ho]; simp[orI,zMI h1 h2]⟩ (by omega) (zP [0,1] 0 (by simp) (by simp) (by simp) (by simp; rfl))
 ·simp;refine jS (fun h1=>?_) (fun h1=>?_)<;>simp at h1
  ·simp;exact zC 0 (by rw[zDf,ho]; simp[orI,zMK (Int.ofNat_lt.2 h1)])
  simp;refine jS (fun h2=>?_) (fun h2=>?_)<;>simp at h2
  ·simp;exact zC 0 (by rw[zDf,ho]; simp[orI,zMJ (Int.ofNat_lt.2 h2)])
  simp;exact zS 3 ⟨by omega,by rw[ho]; simp[orI,zMI (Int.ofNat_le.2 h1) (Int.ofNat_le.2 h2)]⟩ (by omega) (zP [0,1] 0 (by simp) (by simp) (by simp) (by simp; rfl))
 have hlen:a.kids.length=b.kids.length:=by
  have h0:zIN a b=0:=by rw[ho]; rfl
  simp only[zIN,orI]at h0;split at h0<;>try contradiction
  split at h0<;>try contradiction
  split at h0<;>try contradiction
  rename_i _ _ h;simp only[zBA]at h;split at h
  ·cases h
  ·split at h
   ·cases h
   ·omega
 simp;refine qR (S:=Nat) (fun i=>[(2,.ptr 0 0),(3,.ptr 1 0),(8,int i)])
  (fun s=>[.box [int a.k,int a.n,.sl a.kids.length (zW a.kids)],.box [int b.k,int b.n,.sl b.kids.length (zW b.kids)]])
  (fun i=>i≤a.kids.length∧zJf a b=zCx (a.kids.drop i) (b.kids.drop i)) (fun i=>a.kids.length-i) 0 ⟨by omega,by rw[zDf,ho]; simp[orI]⟩
  (zP [0,1] 0 (by simp) (by simp) (by simp) (by simp)) ?_
 rintro i ⟨hi,ho⟩;simp;intro _;refine jS (fun h1=>?_) (fun h1=>?_)<;>simp at h1
 ·have h2:i<b.kids.length:=by omega
  have hd:a.kids.drop i=a.kids[i]::a.kids.drop (i+1):=List.drop_eq_getElem_cons h1;have hd':b.kids.drop i=b.kids[i]::b.kids.drop (i+1):=List.drop_eq_getElem_cons h2;simp[h1,h2,jY h1,jY h2];refine qM (zGl a.kids[i] b.kids[i]) (by simp[zQ]) (by simp) ?_;simp;refine jS (fun h3=>?_) (fun h3=>?_)<;>simp at h3
  ·simp;exact zC 0 (by rw[ho,hd,hd']; simp[zCx,h3])
  ·simp;exact zS (i+1) ⟨h1,by rw[ho,hd,hd']; simp[zCx,h3]⟩ (by omega) (zP [0,1] 0 (by simp) (by simp) (by simp) (by simp[qA h1 hl]))
 ·simp;have e1:a.kids.drop i=[]:=List.drop_eq_nil_of_le h1;have e2:b.kids.drop i=[]:=List.drop_eq_nil_of_le (by omega);exact zC 0 (by rw[ho,e1,e2]; simp[zCx])
termination_by qC a
decreasing_by exact zAw (List.getElem_mem _)
theorem zHN {l:List Id}{m:Nat}(h1:1≤m)(h:m<l.length):zAj (l.take (m+1))=if l[m-1]=l[m] then zAj (l.take m) else zAj (l.take m)++[l[m]]:=by
 rw[List.take_succ_eq_append_getElem h,zC4,zGm,zJB];have:(l.take m).getLast?=some l[m-1]:=by rw[List.getLast?_eq_getElem?,List.length_take,Nat.min_eq_left (by omega),List.getElem?_take,if_pos (by omega),List.getElem?_eq_getElem (by omega)]
 rw[this];simp only[Option.some.injEq]
theorem zLD (l:List Id):(zAj l).length≤l.length:=by
 induction l using zB3 with
 | nil=>simp[zAj]
 | snoc l y ih =>
  rw[zC4,zGm];split
  ·simp; omega
  ·simp; omega
theorem zVg {l:List Id}(h:1≤l.length):zAj (l.take 1)=l.take 1:=by
 cases l with
 | nil=>simp at h
 | cons x l=>simp[zAj,zGm]
theorem zXF {l:List Id}{i:Nat}(h1:1≤i)(h:i<l.length)(hd:l[i-1]=l[i]):zAj l≠l:=by
 intro e;have:∀r:List Id,(zAj (l.take (i+1)++r)).length≤i+r.length:=fun r=>by
  induction r using zB3 with
  | nil =>
   rw[List.append_nil,zHN h1 h,if_pos hd];have:=zLD (l.take i);simp at this;simp;omega
  | snoc r y ih =>
   rw[←List.append_assoc,zC4,zGm];split
   ·simp; omega
   ·simp; omega
 have:=this (l.drop (i+1));rw[List.take_append_drop,e]at this;simp at this;omega
theorem zGp:∀{R:List Id} {k:Nat} (x:Id),k<R.length→(zY R).take (k*3)++(.lit (.int .i64 x.a)::.lit (.int .i64 x.b)::.lit (.int .i64 x.c)::(zY R).drop (k*3+3))=zY (R.set k x)
 | v::R,0,x,h=>by simp
 | v::R,k+1,x,h=>by
  have e:(k+1)*3=k*3+3:=by omega
  have:=zGp (R:=R) (k:=k) x (by simpa using h);rw[e,zDG,List.set_cons_succ,zDG,←this];simp
def zCE (n:Nat):List Id:=List.replicate n Id.zero
theorem zEv:∀n:Nat,zY (zCE n)=(List.replicate n [A.lit (.int .i64 0),A.lit (.int .i64 0),A.lit (.int .i64 0)]).flatten
 | 0=>rfl
 | n+1=>by have:=zEv n;simp only[zCE,List.replicate_succ,List.flatten_cons]at this ⊢;rw[←this]; rfl
theorem zWB {R:List Id}{k:Nat}{x:Id}(h:k<R.length):(R.set k x).take (k+1)=R.take k++[x]:=by rw[List.take_set,List.take_succ_eq_append_getElem h,List.set_append_right _ _ (by simp; omega)];simp[Nat.min_eq_left (Nat.le_of_lt h)]
def zNT (l:List Id):A:=if zAj l=l then .row 0 l.length else .win 0 l.length 0 (zAj l).length ((zAj l).length*3)
theorem zPP (l:List Id)(hb:l.length≤1000000):Ret Tryz.prog 97 [.row 0 l.length] [.row false 29 3 l.length (zY l)] (zNT l)
 [.row false 29 3 l.length (zY (zAj l++zCE (l.length-(zAj l).length)))]:=by
 have hsame:zAj l=l→zY (zAj l++zCE (l.length-(zAj l).length))=zY l:=fun e=>by rw[e]; simp[zCE]
 refine zH Tryz.func97 rfl zNG (rs:=[.slot 2]) (by kernel_rfl) ?_;unfold zJx;by_cases h2:l.length<2
 ·have hc:zAj l=l:=by
   match l,h2 with
   | [],_=>rfl
   | [x],_=>simp[zAj,zGm]
  have h2':(l.length:Int)<2:=by omega
  simp[h2'];exact zG [0] 0 (by simp) (by simp) (by simp[hsame hc]) (by simp[zNT,hc])
 ·have h2':¬(l.length:Int)<2:=by omega
  simp[h2'];refine qR (S:=Nat) (fun i=>[(0,.row 0 l.length),(3,int i)]) (fun i=>[.row false 29 3 l.length (zY l)]) (fun i=>1≤i∧i≤l.length∧zAj (l.take i)=l.take i) (fun i=>l.length-i) 1 ⟨by omega,by omega,zVg (by omega)⟩
   (zP [0] 0 (by simp) (by simp) (by simp) (by simp)) ?_
  rintro i ⟨h1,hi,hc⟩;by_cases h:i<l.length
  ·have hi1:i-1<l.length:=by omega
   have hw:IntKind.i64.wrap ((i:Int)-1)=((i-1:Nat):Int):=by rw[Int.ofNat_sub h1]; exact IntWalk.i64_in _ (by omega)
   have hn1:¬(l.length*3<i*3+3):=by omega
   have hl1:i*3+3≤l.length*3:=by omega
   have hl2:(i-1)*3+3≤l.length*3:=by omega
   have hct:=zHN h1 h;by_cases hd:l[i-1]=l[i]
   ·rw[if_pos hd,hc]at hct;have hne:=zXF h1 h hd;have hd3:zCg l[i].a l[i].b l[i].c l[i-1].a l[i-1].b l[i-1].c=true:=by rw[zBa]; simp[hd]
    simp[h,hw,hl1,hl2,hi1,yK h,yK hi1,hd3];refine⟨hi,?_⟩;refine qR (S:=Nat×Nat×List Id) (fun s=>[(0,.row 0 l.length),(3,int s.1),(4,.win 0 l.length (i*3) (l.length-i) ((l.length-i)*3)),(5,int s.2.1)]) (fun s=>[.row false 29 3 l.length (zY s.2.2)])
     (fun s=>s.2.2.length=l.length∧1≤s.2.1∧i+s.2.1≤l.length∧s.1+1≤i+s.2.1∧(zAj (l.take (i+s.2.1))).length=s.1∧s.2.2.take s.1=zAj (l.take (i+s.2.1))∧s.2.2.drop (i+s.2.1-1)=l.drop (i+s.2.1-1))
     (fun s=>l.length-(i+s.2.1)) (i,1,l) ⟨rfl,Nat.le_refl _,h,by simp,by simp[hct]; omega,by simp[hct],rfl⟩
     (zP [0] 0 (by simp) (by simp) (by simp) (by simp)) ?_
    rintro⟨k,j,R⟩ ⟨r1,r2,r3,r4,r5,r6,r7⟩;simp only at r1 r2 r3 r4 r5 r6 r7;simp only;have hsub:(l.length:Int)-i=((l.length-i:Nat):Int):=by omega
    have hwj:IntKind.i64.wrap ((j:Int)-1)=((j-1:Nat):Int):=by rw[Int.ofNat_sub r2]; exact IntWalk.i64_in _ (by omega)
    have hwj1:IntKind.i64.wrap ((j:Int)+1)=((j+1:Nat):Int):=by push_cast; exact IntWalk.i64_in _ (by omega)
    have hwk1:IntKind.i64.wrap ((k:Int)+1)=((k+1:Nat):Int):=by push_cast; exact IntWalk.i64_in _ (by omega)
    by_cases hj:i+j<l.length
    ·have hjR:i+j<R.length:=by omega
     have hj1R:i+j-1<R.length:=by omega
     have hkR:k<R.length:=by omega
     have hR:R[i+j]=l[i+j]:=by have:=congrArg (fun x:List Id=>x[1]?) r7;simp only[List.getElem?_drop]at this;rw[show i+j-1+1=i+j by omega,List.getElem?_eq_getElem hjR,List.getElem?_eq_getElem hj]at this;exact Option.some.inj this
     have hR1:R[i+j-1]=l[i+j-1]:=by have:=congrArg (fun x:List Id=>x[0]?) r7;simp only[List.getElem?_drop]at this;rw[show i+j-1+0=i+j-1 by omega,List.getElem?_eq_getElem hj1R,List.getElem?_eq_getElem (by omega)]at this;exact Option.some.inj this
     have e0:i*3+j*3=(i+j)*3:=by omega
     have e1:i*3+(j-1)*3=(i+j-1)*3:=by omega
     have hjlt:j<l.length-i:=by omega
     have hjlt1:j-1<l.length-i:=by omega
     have hb0:(i+j)*3+3≤l.length*3:=by omega
     have hb1:(i+j-1)*3+3≤l.length*3:=by omega
     have hbk:k*3+3≤l.length*3:=by omega
     have hkl:k<l.length:=by omega
     have hct2:=zHN (l:=l) (m:=i+j) (by omega) hj;by_cases hd2:l[i+j-1]=l[i+j]
     ·rw[if_pos hd2]at hct2;have hs3:zCg R[i+j].a R[i+j].b R[i+j].c R[i+j-1].a R[i+j-1].b R[i+j-1].c=true:=by rw[zBa,hR,hR1,hd2]; simp
      simp[hjlt,hjlt1,hwj,e0,e1,r1,hb0,hb1,yK hjR,yK hj1R,hs3];exact zS (k,j+1,R) ⟨r1,by simp,by simp only; omega,by simp only; omega,by simp only[←Nat.add_assoc,hct2]; exact r5,by simp only[←Nat.add_assoc,hct2]; exact r6,by
       have:=congrArg (fun x:List Id=>x.drop 1) r7;simp only[List.drop_drop]at this;simp only;rw[show i+(j+1)-1=i+j-1+1 by omega];exact this⟩ (by simp only; omega) (zP [0] 0 (by simp) (by simp) (by simp) (by simp[hwj1]))
     ·rw[if_neg hd2]at hct2;have hs3:zCg R[i+j].a R[i+j].b R[i+j].c R[i+j-1].a R[i+j-1].b R[i+j-1].c=false:=by rw[zBa,hR,hR1]; exact decide_eq_false fun e=>hd2 e.symm
      simp[hjlt,hjlt1,hwj,e0,e1,r1,hb0,hb1,hbk,hkl,yK hjR,yK hj1R,hs3,zGp _ hkR];exact zS (k+1,j+1,R.set k l[i+j]) ⟨by simp[r1],by simp,by simp only; omega,by simp only; omega,by simp only[←Nat.add_assoc,hct2,List.length_append,r5]; simp,by
       simp only[←Nat.add_assoc,hct2];rw[zWB hkR,r6],by
       have:=congrArg (fun x:List Id=>x.drop 1) r7;simp only[List.drop_drop]at this;simp only;rw[show i+(j+1)-1=i+j-1+1 by omega,List.drop_set_of_lt (by omega)];exact this⟩ (by simp only; omega) (zP [0] 0 (by simp) (by simp) (by simp[hR]) (by simp[hwj1,hwk1]))
    ·have hij:i+j=l.length:=by omega
     have hj':¬(j:Int)<((l.length-i:Nat):Int):=by omega
     simp[hj',r1];rw[hij,List.take_length]at r5 r6;have e2:k*3+(l.length-k)*3=l.length*3:=by omega
     have hcells:List.take (k*3) (zY R)++((List.replicate (l.length-k) [A.lit (Value.int IntKind.i64 0),A.lit (Value.int IntKind.i64 0),A.lit (Value.int IntKind.i64 0)]).flatten++List.drop (k*3+(l.length-k)*3) (zY R))=zY (zAj l++zCE (l.length-(zAj l).length)):=by rw[e2,List.drop_of_length_le (by simp[r1]),List.append_nil,zID,r6,jA,zEv,r5]
     rw[hcells];refine⟨by omega,by omega,by omega,?_⟩;exact zG [0] 0 (by simp) (by simp) (by simp) (by simp[zNT,hne,r5])
   ·rw[if_neg hd,hc]at hct;have hd3:zCg l[i].a l[i].b l[i].c l[i-1].a l[i-1].b l[i-1].c=false:=by rw[zBa]; exact decide_eq_false fun e=>hd e.symm
    simp[h,hw,hl1,hl2,hi1,yK h,yK hi1,hd3];exact zS (i+1) ⟨by omega,h,by rw[hct,List.take_succ_eq_append_getElem h]⟩ (by omega) (zP [0] 0 (by simp) (by simp) (by simp) (by simp[qA h (show l.length≤maxLen by simp[maxLen]; omega)]))
  ·have:i=l.length:=by omega
   subst this;rw[List.take_length]at hc;simp;exact zG [0] 0 (by simp) (by simp) (by simp[hsame hc]) (by simp[zNT,hc])
end Go.Proofs.YthglhccibdlccaaGreatDoor
