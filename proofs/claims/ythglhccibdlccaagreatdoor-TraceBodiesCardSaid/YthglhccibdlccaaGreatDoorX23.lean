/-
  Types, definitions and nodes are compared.
  Values as data: their cells; size, depth and order.
  slices.Compact at lists of IDs.
-/
import Derived.Test.YthglhccibdlccaaGreatDoorX22
set_option linter.unusedVariables false
set_option linter.unusedSimpArgs false
namespace Go.Proofs.YthglhccibdlccaaGreatDoor
open Go.Abs
def zBW {α : Type}(same : α→α→Bool):List α→List α→Bool
 | [],[]=>true
 | x::a,y::b=>same x y&&zBW same a b
 | _,_=>false
theorem zEL {α : Type}{same : α→α→Bool}:∀{a b:List α},a.length≠b.length→zBW same a b=false
 | [],[],h=>(h rfl).elim
 | x::a,y::b,h=>by simp only[zBW,zEL (a:=a) (b:=b) (by simpa using h),Bool.and_false]
 | [],_::_,_=>rfl
 | _::_,[],_=>rfl
theorem zBX {α : Type}{same : α→α→Bool}:∀{a b:List α} (hl:a.length=b.length),zBW same a b=true↔∀(j:Nat) (h:j<a.length),same a[j] (b[j]'(hl▸h))=true
 | [],[],_=>by simp[zBW]
 | x::a,y::b,hl=>by
  simp only[zBW,Bool.and_eq_true,zBX (a:=a) (b:=b) (by simpa using hl)];constructor
  ·rintro⟨h1,h2⟩ j h;cases j with
   | zero=>exact h1
   | succ j=>exact h2 j (by simpa using h)
  ·intro h;exact⟨h 0 (by simp),fun j hj=>h (j+1) (by simpa using hj)⟩
 | [],_::_,hl=>by simp at hl
 | _::_,[],hl=>by simp at hl
def qEB:K:=G [kMb 6 false] (Z (G [M 10 0,kN 11 10,M 12 1,kN 13 12,kQ 14 11 13 true] (Y 14 (G [kMb 6 false] kr) ks)) (Z (G [M 15 0,kN 16 15,kMi 17 0] (K.block 0 (K.loop (G [kB 18 17 16 .lss] (Z (Y 18 ks (K.exit 0)) (Z (K.block 1 (G [M 19 17,kX 20 15 17 5,J 21 20 5,kZ 8 kz2,M 7 19,S 8 21 5] (G [M 22 1,M 23 7,kX 24 22 23 5,J 25 24 5,kZ 9 kz2,S 9 25 5] (G [M 26 2,J 27 8 5,J 28 9 5,⟨none,.call (some 29) (kt 26) [(kt 27),(kt 28)]⟩,kR 30 29] (Y 30 (G [kMb 6 false] kr) ks))))) (K.ops [kBi 31 17 1 .add,M 17 31]))))))) (G [kMb 6 true] kr)))
theorem qLh:zL Tryz.prog Tryz.f139.ntmps (Tryz.f139.body.getD .skip)=some qEB.erase:=by kernel_rfl
@[simp] theorem qLY:zA Tryz.prog 139=true:=by kernel_rfl
theorem zWK (g:FuncId)(hcal:zA Tryz.prog g=true)(same:Typ→Typ→Bool)(a b:List Typ)(h:∀x∈a,∀y∈b,Ret Tryz.prog g [.agg (zB x),.agg (zB y)] [] (bl (same x y)) []) :
 Ret Tryz.prog 139 [.sl a.length (jJ a),.sl b.length (jJ b),.clo g [] []] [] (bl (zBW same a b)) []:=by
 refine zI Tryz.func139 rfl qLh (rs:=[.slot 6]) (by kernel_rfl) ?_;unfold qEB;by_cases hab:a.length=b.length
 ·simp[hab];intro hlb;refine qY (S:=Nat) (fun i=>[(1,.sl b.length (jJ b)),(2,.clo g [] []),(15,.sl a.length (jJ a)),(16,int a.length),(17,int i)]) (fun s=>[]) (fun i=>i≤a.length∧∀(j:Nat) (h:j<a.length),j<i→same a[j] (b[j]'(hab▸h))=true) (fun i=>a.length-i) 0 (by simp)
   (zR [] 0 (by simp) (by simp) (by simp) (by simp[hab])) ?_
  rintro i ⟨hi,hn⟩;by_cases hia:i<a.length
  ·have hib:i<b.length:=by omega
   have hla:i*5<a.length*5:=by omega
   have hlb':i*5<b.length*5:=by omega
   simp[hia,hib,zBP hia,zBP hib,hcal,zB];refine zQ (h a[i] (List.getElem_mem hia) b[i] (List.getElem_mem hib)) (by simp[zB]) (by simp) ?_;cases hs:same a[i] b[i]with
   | true =>
    simp;exact zT (i+1) ⟨hia,fun j hj hji=>by
     by_cases e:j=i
     ·subst e; exact hs
     ·exact hn j hj (by omega)⟩ (by omega) (zR [] 0 (by simp) (by simp) (by simp) (by simp[qD hib hlb]))
   | false =>
    have hf:zBW same a b=false:=by
     cases hh:zBW same a b with
     | false=>rfl
     | true=>have:=(zBX hab).1 hh i hia; rw[hs]at this; cases this
    simp;exact zC 0 (by simp[hf])
  ·have hil:i=a.length:=by omega
   subst hil;have ht:zBW same a b=true:=(zBX hab).2 fun j hj=>hn j hj hj
   simp;exact zC 0 (by simp[ht])
 ·have hab':¬(a.length:Int)=b.length:=by omega
  simp[hab'];exact fun _ _=>zC 0 (by simp[zEL hab])
def qEA:K:=G [kMb 6 false] (Z (G [M 10 0,kN 11 10,M 12 1,kN 13 12,kQ 14 11 13 true] (Y 14 (G [kMb 6 false] kr) ks)) (Z (G [M 15 0,kN 16 15,kMi 17 0] (K.block 0 (K.loop (G [kB 18 17 16 .lss] (Z (Y 18 ks (K.exit 0)) (Z (K.block 1 (G [M 19 17,kX 20 15 17 11,J 21 20 11,kZ 8 kz5,M 7 19,S 8 21 11] (G [M 22 1,M 23 7,kX 24 22 23 11,J 25 24 11,kZ 9 kz5,S 9 25 11] (G [M 26 2,J 27 8 11,J 28 9 11,⟨none,.call (some 29) (kt 26) [(kt 27),(kt 28)]⟩,kR 30 29] (Y 30 (G [kMb 6 false] kr) ks))))) (K.ops [kBi 31 17 1 .add,M 17 31]))))))) (G [kMb 6 true] kr)))
theorem qLg:zL Tryz.prog Tryz.f106.ntmps (Tryz.f106.body.getD .skip)=some qEA.erase:=by kernel_rfl
@[simp] theorem qLX:zA Tryz.prog 106=true:=by kernel_rfl
theorem zWJ (g:FuncId)(hcal:zA Tryz.prog g=true)(same:Slt→Slt→Bool)(a b:List Slt)(h:∀x∈a,∀y∈b,Ret Tryz.prog g [.agg (zAi x),.agg (zAi y)] [] (bl (same x y)) []) :
 Ret Tryz.prog 106 [.sl a.length (jT a),.sl b.length (jT b),.clo g [] []] [] (bl (zBW same a b)) []:=by
 refine zI Tryz.func106 rfl qLg (rs:=[.slot 6]) (by kernel_rfl) ?_;unfold qEA;by_cases hab:a.length=b.length
 ·simp[hab];intro hlb;refine qY (S:=Nat) (fun i=>[(1,.sl b.length (jT b)),(2,.clo g [] []),(15,.sl a.length (jT a)),(16,int a.length),(17,int i)]) (fun s=>[]) (fun i=>i≤a.length∧∀(j:Nat) (h:j<a.length),j<i→same a[j] (b[j]'(hab▸h))=true) (fun i=>a.length-i) 0 (by simp)
   (zR [] 0 (by simp) (by simp) (by simp) (by simp[hab])) ?_
  rintro i ⟨hi,hn⟩;by_cases hia:i<a.length
  ·have hib:i<b.length:=by omega
   have hla:i*11<a.length*11:=by omega
   have hlb':i*11<b.length*11:=by omega
   simp[hia,hib,jP hia,jP hib,hcal,zAi];refine zQ (h a[i] (List.getElem_mem hia) b[i] (List.getElem_mem hib)) (by simp[zAi]) (by simp) ?_;cases hs:same a[i] b[i]with
   | true =>
    simp;exact zT (i+1) ⟨hia,fun j hj hji=>by
     by_cases e:j=i
     ·subst e; exact hs
     ·exact hn j hj (by omega)⟩ (by omega) (zR [] 0 (by simp) (by simp) (by simp) (by simp[qD hib hlb]))
   | false =>
    have hf:zBW same a b=false:=by
     cases hh:zBW same a b with
     | false=>rfl
     | true=>have:=(zBX hab).1 hh i hia; rw[hs]at this; cases this
    simp;exact zC 0 (by simp[hf])
  ·have hil:i=a.length:=by omega
   subst hil;have ht:zBW same a b=true:=(zBX hab).2 fun j hj=>hn j hj hj
   simp;exact zC 0 (by simp[ht])
 ·have hab':¬(a.length:Int)=b.length:=by omega
  simp[hab'];exact fun _ _=>zC 0 (by simp[zEL hab])
def qE9:K:=G [kMb 6 false] (Z (G [M 10 0,kN 11 10,M 12 1,kN 13 12,kQ 14 11 13 true] (Y 14 (G [kMb 6 false] kr) ks)) (Z (G [M 15 0,kN 16 15,kMi 17 0] (K.block 0 (K.loop (G [kB 18 17 16 .lss] (Z (Y 18 ks (K.exit 0)) (Z (K.block 1 (G [M 19 17,kX 20 15 17 15,J 21 20 15,kZ 8 kz1,M 7 19,S 8 21 15] (G [M 22 1,M 23 7,kX 24 22 23 15,J 25 24 15,kZ 9 kz1,S 9 25 15] (G [M 26 2,J 27 8 15,J 28 9 15,⟨none,.call (some 29) (kt 26) [(kt 27),(kt 28)]⟩,kR 30 29] (Y 30 (G [kMb 6 false] kr) ks))))) (K.ops [kBi 31 17 1 .add,M 17 31]))))))) (G [kMb 6 true] kr)))
theorem qLf:zL Tryz.prog Tryz.f108.ntmps (Tryz.f108.body.getD .skip)=some qE9.erase:=by kernel_rfl
@[simp] theorem qLW:zA Tryz.prog 108=true:=by kernel_rfl
theorem zWI (g:FuncId)(hcal:zA Tryz.prog g=true)(same:Exp→Exp→Bool)(a b:List Exp)(h:∀x∈a,∀y∈b,Ret Tryz.prog g [.agg (zF x),.agg (zF y)] [] (bl (same x y)) []) :
 Ret Tryz.prog 108 [.sl a.length (qU a),.sl b.length (qU b),.clo g [] []] [] (bl (zBW same a b)) []:=by
 refine zI Tryz.func108 rfl qLf (rs:=[.slot 6]) (by kernel_rfl) ?_;unfold qE9;by_cases hab:a.length=b.length
 ·simp[hab];intro hlb;refine qY (S:=Nat) (fun i=>[(1,.sl b.length (qU b)),(2,.clo g [] []),(15,.sl a.length (qU a)),(16,int a.length),(17,int i)]) (fun s=>[]) (fun i=>i≤a.length∧∀(j:Nat) (h:j<a.length),j<i→same a[j] (b[j]'(hab▸h))=true) (fun i=>a.length-i) 0 (by simp)
   (zR [] 0 (by simp) (by simp) (by simp) (by simp[hab])) ?_
  rintro i ⟨hi,hn⟩;by_cases hia:i<a.length
  ·have hib:i<b.length:=by omega
   have hla:i*15<a.length*15:=by omega
   have hlb':i*15<b.length*15:=by omega
   simp[hia,hib,yQ hia,yQ hib,hcal,zF];refine zQ (h a[i] (List.getElem_mem hia) b[i] (List.getElem_mem hib)) (by simp[zF]) (by simp) ?_;cases hs:same a[i] b[i]with
   | true =>
    simp;exact zT (i+1) ⟨hia,fun j hj hji=>by
     by_cases e:j=i
     ·subst e; exact hs
     ·exact hn j hj (by omega)⟩ (by omega) (zR [] 0 (by simp) (by simp) (by simp) (by simp[qD hib hlb]))
   | false =>
    have hf:zBW same a b=false:=by
     cases hh:zBW same a b with
     | false=>rfl
     | true=>have:=(zBX hab).1 hh i hia; rw[hs]at this; cases this
    simp;exact zC 0 (by simp[hf])
  ·have hil:i=a.length:=by omega
   subst hil;have ht:zBW same a b=true:=(zBX hab).2 fun j hj=>hn j hj hj
   simp;exact zC 0 (by simp[ht])
 ·have hab':¬(a.length:Int)=b.length:=by omega
  simp[hab'];exact fun _ _=>zC 0 (by simp[zEL hab])
inductive Val where
 | mk (k n:Int) (kids:List Val)
def Val.k:Val→Int | .mk k _ _=>k
def Val.n:Val→Int | .mk _ n _=>n
def Val.kids:Val→List Val | .mk _ _ l=>l
mutual
def zIs:Val→A
 | .mk _ _ l=>.sl l.length (zZ l)
def zZ:List Val→List A
 | []=>[]
 | v::l=>.lit (.int .i64 v.k)::.lit (.int .i64 v.n)::zIs v::zZ l
end
def zP (v:Val):List A:=[.lit (.int .i64 v.k),.lit (.int .i64 v.n),.sl v.kids.length (zZ v.kids)]
theorem zTT (v:Val):zIs v=.sl v.kids.length (zZ v.kids):=by cases v; simp only[zIs,Val.kids]
@[simp] theorem qAG:zZ []=[]:=by simp only[zZ]
@[simp] theorem zMX (v:Val)(l:List Val):zZ (v::l)=.lit (.int .i64 v.k)::.lit (.int .i64 v.n)::.sl v.kids.length (zZ v.kids)::zZ l:=by simp only[zZ,zTT]
@[simp] theorem zOT:∀l:List Val,(zZ l).length=l.length*3
 | []=>by simp
 | v::l=>by simp[zOT l]; omega
mutual
theorem zMT:∀v:Val,nrm0 (zIs v)=zIs v∧∀rf g,vw rf g (zIs v)=zIs v
 | .mk k n l=>by have h:=zB2 l;simp only[zIs];exact⟨by simp[h.1],fun rf g=>by simp[h.2]⟩
theorem zB2:∀l:List Val,qW (zZ l)
 | []=>by simp only[zZ]; exact qW.nil
 | v::l=>by have h:=zMT v;have h':=zB2 l;simp only[zZ];exact⟨by simp[h.1,h'.1],fun rf g=>by simp[h.2,h'.2]⟩
end
@[simp] theorem zZ0 (l:List Val):qV (zZ l)=zZ l:=(zB2 l).1
@[simp] theorem qDQ {rf g}(l:List Val):vwL rf g (zZ l)=zZ l:=(zB2 l).2 _ _
theorem yF:∀{l:List Val} {i:Nat} (h:i<l.length),(zZ l).drop (i*3)=.lit (.int .i64 l[i].k)::.lit (.int .i64 l[i].n)::.sl l[i].kids.length (zZ l[i].kids)::zZ (l.drop (i+1))
 | v::l,0,h=>by simp
 | v::l,i+1,h=>by
  have e:(i+1)*3=i*3+3:=by omega
  rw[e,zMX]
  simpa using yF (l:=l) (i:=i) (by simpa using h)
mutual
def qB:Val→Nat
 | .mk _ _ l=>1+qN l
def qN:List Val→Nat
 | []=>0
 | v::l=>qB v+qN l
end
theorem zFC:∀{l:List Val} {v:Val},v∈l→qB v≤qN l
 | x::l,v,h=>by
  simp only[qN];rcases List.mem_cons.1 h with rfl | h
  ·omega
  ·have:=zFC h; omega
theorem zA7 {v x:Val}(h:x∈v.kids):qB x<qB v:=by
 cases v with
 | mk k n l=>have:=zFC (l:=l) h; simp only[qB]; omega
def zD6:Val→Int
 | .mk _ _ l=>l.attach.foldl (fun s x=>w64 (s+zD6 x.1)) 1
termination_by v=>qB v
decreasing_by
 have:=zFC x.2;simp only[qB]; omega
def zKp (l:List Val):Int:=l.foldl (fun s x=>w64 (s+zD6 x)) 1
theorem zKl (v:Val):zD6 v=zKp v.kids:=by
 cases v with
 | mk k n l =>
  rw[zD6];simp only[Val.kids,zKp];rw[List.foldl_attach (f:=fun s x=>w64 (s+zD6 x))]
theorem zIi {l:List Val}{i:Nat}(h:i<l.length):zKp (l.take (i+1))=IntKind.i64.wrap (zKp (l.take i)+zD6 l[i]):=by rw[zKp,List.take_succ_eq_append_getElem h,List.foldl_append];rfl
def zP8 (a b:Int):Int:=if a<b then b else a
def zCb:Val→Int
 | .mk _ _ l=>w64 (l.attach.foldl (fun s x=>zP8 s (zCb x.1)) 0+1)
termination_by v=>qB v
decreasing_by
 have:=zFC x.2;simp only[qB]; omega
def zJF (l:List Val):Int:=l.foldl (fun s x=>zP8 s (zCb x)) 0
theorem zHB (v:Val):zCb v=w64 (zJF v.kids+1):=by
 cases v with
 | mk k n l =>
  rw[zCb];simp only[Val.kids,zJF];rw[List.foldl_attach (f:=fun s x=>zP8 s (zCb x))]
theorem zHO {l:List Val}{i:Nat}(h:i<l.length):zJF (l.take (i+1))=zP8 (zJF (l.take i)) (zCb l[i]):=by rw[zJF,List.take_succ_eq_append_getElem h,List.foldl_append];rfl
def qEQ:K:=G [kO 1 0,kMi 2 0] (G [kMi 3 1] (Z (G [kMi 4 0] (K.block 0 (K.loop (Z (G [M 5 4,D 6 1 2,L 7 6 1,kN 8 7,kB 9 5 8 .lss] (Y 9 ks (K.exit 0))) (Z (K.block 1 (K.ops [M 12 3,D 13 1 2,L 14 13 1,M 15 4,kX 16 14 15 3,J 17 16 3,kC 18 121 [(kt 17)],kB 19 12 18 .add,M 3 19])) (K.ops [M 10 4,kBi 11 10 1 .add,M 4 11])))))) (G [M 20 3,M 2 20] kr)))
theorem qLw:zL Tryz.prog Tryz.f121.ntmps (Tryz.f121.body.getD .skip)=some qEQ.erase:=by kernel_rfl
@[simp] theorem qM0:zA Tryz.prog 121=true:=by kernel_rfl
theorem zJZ (v:Val):Ret Tryz.prog 121 [.agg (zP v)] [] (int (zD6 v)) []:=by
 refine zI Tryz.func121 rfl qLw (rs:=[.slot 2]) (by kernel_rfl) ?_;unfold qEQ;simp[zP];refine qY (S:=Nat) (fun i=>[(1,.ptr 0 0),(3,int (zKp (v.kids.take i))),(4,int i)]) (fun s=>[.box (zP v)]) (fun i=>i≤v.kids.length) (fun i=>v.kids.length-i) 0 (by simp)
  (zR [0] 0 (by simp) (by simp) (by simp[zP]) (by simp[zKp])) ?_
 intro i hi;by_cases h:i<v.kids.length
 ·simp[zP,h,yF h];intro hl;refine zQ (zJZ v.kids[i]) (by simp[zP]) (by simp) ?_;simp;exact zT (i+1) h (by omega) (zR [0] 0 (by simp) (by simp) (by simp[zP]) (by simp[qD h hl,zIi h]))
 ·have:i=v.kids.length:=by omega
  subst this;simp[zP];exact fun _=>zC 0 (by simp[zKl v])
termination_by qB v
decreasing_by exact zA7 (List.getElem_mem _)
def qEN:K:=G [kO 1 0,kMi 2 0] (G [kMi 3 0] (Z (G [kMi 4 0] (K.block 0 (K.loop (Z (G [M 5 4,D 6 1 2,L 7 6 1,kN 8 7,kB 9 5 8 .lss] (Y 9 ks (K.exit 0))) (Z (K.block 1 (K.ops [M 12 3,D 13 1 2,L 14 13 1,M 15 4,kX 16 14 15 3,J 17 16 3,kC 18 122 [(kt 17)],⟨none,.mm (some 19) true [(kt 12),(kt 18)]⟩,M 3 19])) (K.ops [M 10 4,kBi 11 10 1 .add,M 4 11])))))) (G [M 20 3,kBi 21 20 1 .add,M 2 21] kr)))
theorem qLt:zL Tryz.prog Tryz.f122.ntmps (Tryz.f122.body.getD .skip)=some qEN.erase:=by kernel_rfl
@[simp] theorem qMq:zA Tryz.prog 122=true:=by kernel_rfl
theorem zIA (v:Val):Ret Tryz.prog 122 [.agg (zP v)] [] (int (zCb v)) []:=by
 refine zI Tryz.func122 rfl qLt (rs:=[.slot 2]) (by kernel_rfl) ?_;unfold qEN;simp[zP];refine qY (S:=Nat) (fun i=>[(1,.ptr 0 0),(3,int (zJF (v.kids.take i))),(4,int i)]) (fun s=>[.box (zP v)]) (fun i=>i≤v.kids.length) (fun i=>v.kids.length-i) 0 (by simp)
  (zR [0] 0 (by simp) (by simp) (by simp[zP]) (by simp[zJF])) ?_
 intro i hi;by_cases h:i<v.kids.length
 ·simp[zP,h,yF h];intro hl;refine zQ (zIA v.kids[i]) (by simp[zP]) (by simp) ?_;simp;exact zT (i+1) h (by omega) (zR [0] 0 (by simp) (by simp) (by simp[zP]) (by simp[qD h hl,zHO h,zP8]))
 ·have:i=v.kids.length:=by omega
  subst this;simp[zP];exact fun _=>zC 0 (by simp[zHB v,w64])
termination_by qB v
decreasing_by exact zA7 (List.getElem_mem _)
def qFf:K:=G [kO 2 0,kO 3 1,kMi 4 0] (Z (Z (K.dops [(0,0,D 6 2 0),(1,0,L 7 6 1),(2,0,D 8 3 0),(3,0,L 9 8 1),(4,0,kC 10 135 [(kt 7),(kt 9)]),(5,0,D 11 2 1),(6,0,L 12 11 1),(7,0,D 13 3 1),(8,0,L 14 13 1),(9,0,kC 15 135 [(kt 12),(kt 14)]),(10,0,D 16 2 2),(11,0,L 17 16 1),(12,0,kN 18 17),(13,0,D 19 3 2),(14,0,L 20 19 1),(15,0,kN 21 20),(16,0,kC 22 135 [(kt 18),(kt 21)]),(17,0,kd 23 3 1 3 [ki,ki,ki] [(0,1,(kt 10)),(1,1,(kt 15)),(2,1,(kt 22))]),(18,0,kC 24 134 [(kt 23)]),(19,0,M 5 24)]) (G [M 25 5,kQi 26 25 0 true] (Y 26 (G [M 27 5,M 4 27] kr) ks))) (G [D 28 2 2,L 29 28 1,D 30 3 2,L 31 30 1,kC 32 180 [(kt 29),(kt 31),(.func 167)],M 4 32] kr))
theorem qLB:zL Tryz.prog Tryz.f167.ntmps (Tryz.f167.body.getD .skip)=some qFf.erase:=by kernel_rfl
@[simp] theorem qMU:zA Tryz.prog 167=true:=by kernel_rfl
def qFe:K:=G [kMi 6 0] (Z (G [M 11 0,kN 12 11,kMi 13 0] (K.block 0 (K.loop (G [kB 14 13 12 .lss] (Z (Y 14 ks (K.exit 0)) (Z (K.block 1 (G [M 15 13,kX 16 11 13 3,J 17 16 3,kZ 8 [ki,ki,kl],M 7 15,S 8 17 3] (Z (G [M 18 7,M 19 1,kN 20 19,kB 21 18 20 .geq] (Y 21 (G [kMi 6 1] kr) ks)) (G [M 22 1,M 23 7,kX 24 22 23 3,J 25 24 3,kZ 9 [ki,ki,kl],S 9 25 3] (G [M 26 2,J 27 8 3,J 28 9 3,⟨none,.call (some 29) (kt 26) [(kt 27),(kt 28)]⟩,M 10 29] (G [M 30 10,kQi 31 30 0 true] (Y 31 (G [M 32 10,M 6 32] kr) ks))))))) (K.ops [kBi 33 13 1 .add,M 13 33]))))))) (Z (G [M 34 0,kN 35 34,M 36 1,kN 37 36,kB 38 35 37 .lss] (Y 38 (G [⟨none,.mov (some 6) (kc (-1))⟩] kr) ks)) (G [kMi 6 0] kr)))
theorem qLA:zL Tryz.prog Tryz.f180.ntmps (Tryz.f180.body.getD .skip)=some qFe.erase:=by kernel_rfl
@[simp] theorem qMT:zA Tryz.prog 180=true:=by kernel_rfl
mutual
def zNa:Val→Val→Int
 | .mk k n l,.mk k' n' l'=>if orI [zDf k k',zDf n n',zDf l.length l'.length]≠0 then orI [zDf k k',zDf n n',zDf l.length l'.length] else zEP l l'
def zEP:List Val→List Val→Int
 | [],[]=>0
 | [],_::_=>-1
 | _::_,[]=>1
 | a::l,b::l'=>if zNa a b≠0 then zNa a b else zEP l l'
end
def zQ9 (a b:Val):Int:=orI [zDf a.k b.k,zDf a.n b.n,zDf a.kids.length b.kids.length]
theorem zQv (a b:Val):zNa a b=if zQ9 a b≠0 then zQ9 a b else zEP a.kids b.kids:=by cases a; cases b; rw[zNa]; rfl
theorem zJk (xs ys:List Val)(h:∀a∈xs,∀b∈ys,Ret Tryz.prog 167 [.agg (zP a),.agg (zP b)] [] (int (zNa a b)) []) :
 Ret Tryz.prog 180 [.sl xs.length (zZ xs),.sl ys.length (zZ ys),.clo 167 [] []] [] (int (zEP xs ys)) []:=by
 refine zI Tryz.func180 rfl qLA (rs:=[.slot 6]) (by kernel_rfl) ?_;unfold qFe;simp;intro hl;refine qY (S:=Nat) (fun i=>[(0,.sl xs.length (zZ xs)),(1,.sl ys.length (zZ ys)),(2,.clo 167 [] []),(11,.sl xs.length (zZ xs)),(12,int xs.length),(13,int i)]) (fun s=>[])
  (fun i=>i≤xs.length∧i≤ys.length∧zEP xs ys=zEP (xs.drop i) (ys.drop i)) (fun i=>xs.length-i) 0 (by simp)
  (zR [] 0 (by simp) (by simp) (by simp) (by simp)) ?_
 rintro i ⟨hi,hi',ho⟩;simp;refine zAk (fun h1=>?_) (fun h1=>?_)<;>simp at h1
 ·have hd:xs.drop i=xs[i]::xs.drop (i+1):=List.drop_eq_getElem_cons h1;simp[h1,yF h1];intro hl';refine zAk (fun h2=>?_) (fun h2=>?_)<;>simp at h2
  ·simp;have hn:ys.drop i=[]:=List.drop_eq_nil_of_le h2;exact zC 0 (by rw[ho,hd,hn]; simp[zEP])
  ·have hd':ys.drop i=ys[i]::ys.drop (i+1):=List.drop_eq_getElem_cons h2;simp[h2,yF h2];refine zQ (h xs[i] (List.getElem_mem _) ys[i] (List.getElem_mem _)) (by simp[zP]) (by simp) ?_;simp;refine zAk (fun h3=>?_) (fun h3=>?_)<;>simp at h3
   ·simp;exact zC 0 (by rw[ho,hd,hd']; simp[zEP,h3])
   ·simp;refine zT (i+1) ⟨h1,h2,by rw[ho,hd,hd']; simp[zEP,h3]⟩ (by omega) (zR [] 0 (by simp) (by simp) (by simp) (by simp[qD h1 hl]))
 ·have:i=xs.length:=by omega
  subst this;simp;have hn:xs.drop xs.length=[]:=by simp
  intro _ hl';refine zAk (fun h2=>?_) (fun h2=>?_)<;>simp at h2
  ·have hd':ys.drop xs.length=ys[xs.length]::ys.drop (xs.length+1):=List.drop_eq_getElem_cons h2;simp;exact zC 0 (by rw[ho,hn,hd']; simp[zEP])
  ·have hn':ys.drop xs.length=[]:=List.drop_eq_nil_of_le h2;simp;exact zC 0 (by rw[ho,hn,hn']; simp[zEP])
theorem zQw (a b:Val):Ret Tryz.prog 167 [.agg (zP a),.agg (zP b)] [] (int (zNa a b)) []:=by
 refine zI Tryz.func167 rfl qLB (rs:=[.slot 4]) (by kernel_rfl) ?_;unfold qFf;simp[zP];refine qO (zCs a.k b.k) (by simp) (by simp) ?_;simp;refine qO (zCs a.n b.n) (by simp) (by simp) ?_;simp;refine qO (zCs a.kids.length b.kids.length) (by simp) (by simp) ?_;simp;refine qO (zZ5 [zDf a.k b.k,zDf a.n b.n,zDf a.kids.length b.kids.length]) (by simp) (by simp) ?_;simp;refine zAk (fun h=>?_) (fun h=>?_)<;>simp at h
 ·simp;exact zC 0 (by rw[zQv]; simp[zQ9,h])
 ·simp;refine zQ (zJk a.kids b.kids fun x hx y hy=>zQw x y) (by simp) (by simp) ?_;simp;exact zC 0 (by rw[zQv]; simp[zQ9,h])
termination_by qB a
decreasing_by exact zA7 hx
@[simp] theorem qMp:zA Tryz.prog 15=true:=by kernel_rfl
theorem zH8 {l:List Id}{m:Nat}(h1:1≤m)(h:m<l.length):zAc (l.take (m+1))=if l[m-1]=l[m] then zAc (l.take m) else zAc (l.take m)++[l[m]]:=by
 rw[List.take_succ_eq_append_getElem h,zCr,zFS,zJj];have:(l.take m).getLast?=some l[m-1]:=by rw[List.getLast?_eq_getElem?,List.length_take,Nat.min_eq_left (by omega),List.getElem?_take,if_pos (by omega),List.getElem?_eq_getElem (by omega)]
 rw[this];simp only[Option.some.injEq]
theorem zKW (l:List Id):(zAc l).length≤l.length:=by
 induction l using zBu with
 | nil=>simp[zAc]
 | snoc l y ih =>
  rw[zCr,zFS];split
  ·simp; omega
  ·simp; omega
theorem zTZ {l:List Id}(h:1≤l.length):zAc (l.take 1)=l.take 1:=by
 cases l with
 | nil=>simp at h
 | cons x l=>simp[zAc,zFS]
theorem zWw {l:List Id}{i:Nat}(h1:1≤i)(h:i<l.length)(hd:l[i-1]=l[i]):zAc l≠l:=by
 intro e;have:∀r:List Id,(zAc (l.take (i+1)++r)).length≤i+r.length:=fun r=>by
  induction r using zBu with
  | nil =>
   rw[List.append_nil,zH8 h1 h,if_pos hd];have:=zKW (l.take i);simp at this;simp;omega
  | snoc r y ih =>
   rw[←List.append_assoc,zCr,zFS];split
   ·simp; omega
   ·simp; omega
 have:=this (l.drop (i+1));rw[List.take_append_drop,e]at this;simp at this;omega
theorem zFV:∀{R:List Id} {k:Nat} (x:Id),k<R.length→(zX R).take (k*3)++(.lit (.int .i64 x.a)::.lit (.int .i64 x.b)::.lit (.int .i64 x.c)::(zX R).drop (k*3+3))=zX (R.set k x)
 | v::R,0,x,h=>by simp
 | v::R,k+1,x,h=>by
  have e:(k+1)*3=k*3+3:=by omega
  have:=zFV (R:=R) (k:=k) x (by simpa using h);rw[e,zDw,List.set_cons_succ,zDw,←this];simp
def zC1 (n:Nat):List Id:=List.replicate n Id.zero
theorem zEd:∀n:Nat,zX (zC1 n)=(List.replicate n [A.lit (.int .i64 0),A.lit (.int .i64 0),A.lit (.int .i64 0)]).flatten
 | 0=>rfl
 | n+1=>by have:=zEd n;simp only[zC1,List.replicate_succ,List.flatten_cons]at this ⊢;rw[←this]; rfl
theorem zVv {R:List Id}{k:Nat}{x:Id}(h:k<R.length):(R.set k x).take (k+1)=R.take k++[x]:=by rw[List.take_set,List.take_succ_eq_append_getElem h,List.set_append_right _ _ (by simp; omega)];simp[Nat.min_eq_left (Nat.le_of_lt h)]
def zNb (l:List Id):A:=if zAc l=l then .row 0 l.length else .win 0 l.length 0 (zAc l).length ((zAc l).length*3)
theorem zOV (l:List Id)(hb:l.length≤1000000):Ret Tryz.prog 97 [.row 0 l.length] [.row false 29 3 l.length (zX l)] (zNb l)
 [.row false 29 3 l.length (zX (zAc l++zC1 (l.length-(zAc l).length)))]:=by
 have hsame:zAc l=l→zX (zAc l++zC1 (l.length-(zAc l).length))=zX l:=fun e=>by rw[e]; simp[zC1]
 refine zI Tryz.func97 rfl zMP (rs:=[.slot 2]) (by kernel_rfl) ?_;unfold zIY;by_cases h2:l.length<2
 ·have hc:zAc l=l:=by
   match l,h2 with
   | [],_=>rfl
   | [x],_=>simp[zAc,zFS]
  have h2':(l.length:Int)<2:=by omega
  simp[h2'];exact zG [0] 0 (by simp) (by simp) (by simp[hsame hc]) (by simp[zNb,hc])
 ·have h2':¬(l.length:Int)<2:=by omega
  simp[h2'];refine qY (S:=Nat) (fun i=>[(0,.row 0 l.length),(3,int i)]) (fun i=>[.row false 29 3 l.length (zX l)]) (fun i=>1≤i∧i≤l.length∧zAc (l.take i)=l.take i) (fun i=>l.length-i) 1 ⟨by omega,by omega,zTZ (by omega)⟩
   (zR [0] 0 (by simp) (by simp) (by simp) (by simp)) ?_
  rintro i ⟨h1,hi,hc⟩;by_cases h:i<l.length
  ·have hi1:i-1<l.length:=by omega
   have hw:IntKind.i64.wrap ((i:Int)-1)=((i-1:Nat):Int):=by rw[Int.ofNat_sub h1]; exact IntWalk.i64_in _ (by omega)
   have hn1:¬(l.length*3<i*3+3):=by omega
   have hl1:i*3+3≤l.length*3:=by omega
   have hl2:(i-1)*3+3≤l.length*3:=by omega
   have hct:=zH8 h1 h;by_cases hd:l[i-1]=l[i]
   ·rw[if_pos hd,hc]at hct;have hne:=zWw h1 h hd;have hd3:zBU l[i].a l[i].b l[i].c l[i-1].a l[i-1].b l[i-1].c=true:=by rw[zAR]; simp[hd]
    simp[h,hw,hl1,hl2,hi1,yE h,yE hi1,hd3];refine⟨hi,?_⟩;refine qY (S:=Nat×Nat×List Id) (fun s=>[(0,.row 0 l.length),(3,int s.1),(4,.win 0 l.length (i*3) (l.length-i) ((l.length-i)*3)),(5,int s.2.1)]) (fun s=>[.row false 29 3 l.length (zX s.2.2)])
     (fun s=>s.2.2.length=l.length∧1≤s.2.1∧i+s.2.1≤l.length∧s.1+1≤i+s.2.1∧(zAc (l.take (i+s.2.1))).length=s.1∧s.2.2.take s.1=zAc (l.take (i+s.2.1))∧s.2.2.drop (i+s.2.1-1)=l.drop (i+s.2.1-1))
     (fun s=>l.length-(i+s.2.1)) (i,1,l) ⟨rfl,Nat.le_refl _,h,by simp,by simp[hct]; omega,by simp[hct],rfl⟩
     (zR [0] 0 (by simp) (by simp) (by simp) (by simp)) ?_
    rintro⟨k,j,R⟩ ⟨r1,r2,r3,r4,r5,r6,r7⟩;simp only at r1 r2 r3 r4 r5 r6 r7;simp only;have hsub:(l.length:Int)-i=((l.length-i:Nat):Int):=by omega
    have hwj:IntKind.i64.wrap ((j:Int)-1)=((j-1:Nat):Int):=by rw[Int.ofNat_sub r2]; exact IntWalk.i64_in _ (by omega)
    have hwj1:IntKind.i64.wrap ((j:Int)+1)=((j+1:Nat):Int):=by push_cast; exact IntWalk.i64_in _ (by omega)
    have hwk1:IntKind.i64.wrap ((k:Int)+1)=((k+1:Nat):Int):=by push_cast; exact IntWalk.i64_in _ (by omega)
    by_cases hj:i+j<l.length
    ·have hjR:i+j<R.length:=by omega
     have hj1R:i+j-1<R.length:=by omega
     have hkR:k<R.length:=by omega
     have hR:R[i+j]=l[i+j]:=by have:=congrArg (fun x:List Id=>x[1]?) r7;simp only[List.getElem?_drop]at this;rw[show i+j-1+1=i+j by omega,List.getElem?_eq_getElem hjR,List.getElem?_eq_getElem hj]at this;exact Option.some.inj this
     have hR1:R[i+j-1]=l[i+j-1]:=by have:=congrArg (fun x:List Id=>x[0]?) r7;simp only[List.getElem?_drop]at this;rw[show i+j-1+0=i+j-1 by omega,List.getElem?_eq_getElem hj1R,List.getElem?_eq_getElem (by omega)]at this;exact Option.some.inj this
     have e0:i*3+j*3=(i+j)*3:=by omega
     have e1:i*3+(j-1)*3=(i+j-1)*3:=by omega
     have hjlt:j<l.length-i:=by omega
     have hjlt1:j-1<l.length-i:=by omega
     have hb0:(i+j)*3+3≤l.length*3:=by omega
     have hb1:(i+j-1)*3+3≤l.length*3:=by omega
     have hbk:k*3+3≤l.length*3:=by omega
     have hkl:k<l.length:=by omega
     have hct2:=zH8 (l:=l) (m:=i+j) (by omega) hj;by_cases hd2:l[i+j-1]=l[i+j]
     ·rw[if_pos hd2]at hct2;have hs3:zBU R[i+j].a R[i+j].b R[i+j].c R[i+j-1].a R[i+j-1].b R[i+j-1].c=true:=by rw[zAR,hR,hR1,hd2]; simp
      simp[hjlt,hjlt1,hwj,e0,e1,r1,hb0,hb1,yE hjR,yE hj1R,hs3];exact zT (k,j+1,R) ⟨r1,by simp,by simp only; omega,by simp only; omega,by simp only[←Nat.add_assoc,hct2]; exact r5,by simp only[←Nat.add_assoc,hct2]; exact r6,by
       have:=congrArg (fun x:List Id=>x.drop 1) r7;simp only[List.drop_drop]at this;simp only;rw[show i+(j+1)-1=i+j-1+1 by omega];exact this⟩ (by simp only; omega) (zR [0] 0 (by simp) (by simp) (by simp) (by simp[hwj1]))
     ·rw[if_neg hd2]at hct2;have hs3:zBU R[i+j].a R[i+j].b R[i+j].c R[i+j-1].a R[i+j-1].b R[i+j-1].c=false:=by rw[zAR,hR,hR1]; exact decide_eq_false fun e=>hd2 e.symm
      simp[hjlt,hjlt1,hwj,e0,e1,r1,hb0,hb1,hbk,hkl,yE hjR,yE hj1R,hs3,zFV _ hkR];exact zT (k+1,j+1,R.set k l[i+j]) ⟨by simp[r1],by simp,by simp only; omega,by simp only; omega,by simp only[←Nat.add_assoc,hct2,List.length_append,r5]; simp,by
       simp only[←Nat.add_assoc,hct2];rw[zVv hkR,r6],by
       have:=congrArg (fun x:List Id=>x.drop 1) r7;simp only[List.drop_drop]at this;simp only;rw[show i+(j+1)-1=i+j-1+1 by omega,List.drop_set_of_lt (by omega)];exact this⟩ (by simp only; omega) (zR [0] 0 (by simp) (by simp) (by simp[hR]) (by simp[hwj1,hwk1]))
    ·have hij:i+j=l.length:=by omega
     have hj':¬(j:Int)<((l.length-i:Nat):Int):=by omega
     simp[hj',r1];rw[hij,List.take_length]at r5 r6;have e2:k*3+(l.length-k)*3=l.length*3:=by omega
     have hcells:List.take (k*3) (zX R)++((List.replicate (l.length-k) [A.lit (Value.int IntKind.i64 0),A.lit (Value.int IntKind.i64 0),A.lit (Value.int IntKind.i64 0)]).flatten++List.drop (k*3+(l.length-k)*3) (zX R))=zX (zAc l++zC1 (l.length-(zAc l).length)):=by rw[e2,List.drop_of_length_le (by simp[r1]),List.append_nil,zIu,r6,jD,zEd,r5]
     rw[hcells];refine⟨by omega,by omega,by omega,?_⟩;exact zG [0] 0 (by simp) (by simp) (by simp) (by simp[zNb,hne,r5])
   ·rw[if_neg hd,hc]at hct;have hd3:zBU l[i].a l[i].b l[i].c l[i-1].a l[i-1].b l[i-1].c=false:=by rw[zAR]; exact decide_eq_false fun e=>hd e.symm
    simp[h,hw,hl1,hl2,hi1,yE h,yE hi1,hd3];exact zT (i+1) ⟨by omega,h,by rw[hct,List.take_succ_eq_append_getElem h]⟩ (by omega) (zR [0] 0 (by simp) (by simp) (by simp) (by simp[qD h (show l.length≤maxLen by simp[maxLen]; omega)]))
  ·have:i=l.length:=by omega
   subst this;rw[List.take_length]at hc;simp;exact zG [0] 0 (by simp) (by simp) (by simp[hsame hc]) (by simp[zNb,hc])
end Go.Proofs.YthglhccibdlccaaGreatDoor
