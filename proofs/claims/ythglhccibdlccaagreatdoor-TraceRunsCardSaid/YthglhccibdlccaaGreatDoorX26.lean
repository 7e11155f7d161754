/-
  trace.read: the first definition and the first node of each ID.
  The maker's functions without recursion.
-/
import Derived.Test.YthglhccibdlccaaGreatDoorX22
import Derived.Test.YthglhccibdlccaaGreatDoorX23
import Derived.Test.YthglhccibdlccaaGreatDoorX24
set_option linter.unusedVariables false
set_option linter.unusedSimpArgs false
namespace Go.Proofs.YthglhccibdlccaaGreatDoor
open Go.Abs
def zZc:K:=G [kO 1 0,kZ 2 [(.map none),(.map none)]] (G [⟨none,.mop (some 9) (.mk 3) []⟩,⟨none,.mop (some 10) (.mk 3) []⟩,kb 11 [(.map none),(.map none)] [(0,1,(kt 9)),(1,1,(kt 10))],kZ 3 [(.map none),(.map none)],S 3 11 2] (G [kZ 4 [.nilFunc]] (G [⟨none,.clo (some 12) 103 [] [(kt 3),(kt 4)]⟩,S 4 12 1] (Z (G [D 13 1 1,L 14 13 1,kN 15 14,kMi 16 0] (K.block 0 (K.loop (G [kB 17 16 15 .lss] (Z (Y 17 ks (K.exit 0)) (Z (K.block 1 (G [kX 18 14 16 31,J 19 18 31,kZ 6 kz0,S 6 19 31] (Z (G [D 21 3 0,L 22 21 1,D 23 6 0,J 24 23 3,⟨none,.mop (some 25) (.get 3 (.agg #[ki,ki,ki,ki,ki,ki,ki,(.string ⟨#[]⟩),kl,ki,ki,ki,ki,kl,ki,ki,ki,ki,ki,ki,ki,ki,ki,ki,ki,ki,kl,kl,kl,ki,kl]) true) [(kt 22),(kt 24)]⟩,M 20 25,kE 26 20 0,kE 27 20 1,kZ 7 kz0,S 7 26 31,M 8 27] (G [M 28 8,kR 29 28] (Y 29 (K.ops [D 30 3 0,L 31 30 1,D 32 6 0,J 33 32 3,J 34 6 31,⟨none,.mop none (.set 3) [(kt 31),(kt 33),(kt 34)]⟩]) ks))) (G [J 35 6 31,kC 36 43 [(kt 35)]] (Y 36 (K.ops [L 37 4 1,D 38 6 14,J 39 38 15,⟨none,.call (some 40) (kt 37) [(kt 39)]⟩]) ks))))) (K.ops [kBi 41 16 1 .add,M 16 41]))))))) (G [J 42 3 2,S 2 42 2] kr)))))
theorem qGF:zL Tryz.prog Tryz.f55.ntmps (Tryz.f55.body.getD .skip)=some zZc.erase:=by kernel_rfl
@[simp] theorem qJR:zA Tryz.prog 55=true:=by kernel_rfl
def zTB:K:=G [kO 3 0] (Z (G [D 9 1 1,L 10 9 1,D 11 3 0,J 12 11 3,⟨none,.mop (some 13) (.get 3 (.agg #[ki,ki,ki,ki,ki,ki,ki,ki,ki,ki,ki,ki,kl,kl,kl]) true) [(kt 10),(kt 12)]⟩,M 8 13,kE 14 8 0,kE 15 8 1,kZ 4 kz1,S 4 14 15,M 5 15] (G [M 16 5,kR 17 16] (Y 17 (K.ops [D 18 1 1,L 19 18 1,D 20 3 0,J 21 20 3,J 22 3 15,⟨none,.mop none (.set 3) [(kt 19),(kt 21),(kt 22)]⟩]) ks))) (G [D 23 3 13,L 24 23 1,kN 25 24,kMi 26 0] (K.block 0 (K.loop (G [kB 27 26 25 .lss] (Z (Y 27 ks (K.exit 0)) (Z (K.block 1 (G [kX 28 24 26 15,J 29 28 15,kZ 7 kz1,S 7 29 15] (K.ops [L 30 2 1,J 31 7 15,⟨none,.call (some 32) (kt 30) [(kt 31)]⟩]))) (K.ops [kBi 33 26 1 .add,M 26 33]))))))))
theorem qAP:zL Tryz.prog Tryz.f103.ntmps (Tryz.f103.body.getD .skip)=some zTB.erase:=by kernel_rfl
@[simp] theorem qHe:zA Tryz.prog 103=true:=by kernel_rfl
def zE:List A:=[.lit (.int .i64 0),.lit (.int .i64 0),.lit (.int .i64 0),.lit (.int .i64 0),.lit (.int .i64 0),.lit (.int .i64 0),.lit (.int .i64 0),.lit (.int .i64 0),.lit (.int .i64 0),.lit (.int .i64 0),.lit (.int .i64 0),.lit (.int .i64 0),.nil,.nil,.nil]
def zD:List A:=[.lit (.int .i64 0),.lit (.int .i64 0),.lit (.int .i64 0),.lit (.int .i64 0),.lit (.int .i64 0),.lit (.int .i64 0),.lit (.int .i64 0),.lit (.string ⟨#[]⟩),.nil,.lit (.int .i64 0),.lit (.int .i64 0),.lit (.int .i64 0),.lit (.int .i64 0),.nil,.lit (.int .i64 0),.lit (.int .i64 0),.lit (.int .i64 0),.lit (.int .i64 0),.lit (.int .i64 0),.lit (.int .i64 0),.lit (.int .i64 0),.lit (.int .i64 0),.lit (.int .i64 0),.lit (.int .i64 0),.lit (.int .i64 0),.lit (.int .i64 0),.nil,.nil,.nil,.lit (.int .i64 0),.nil]
@[simp] theorem qD2 {z:Value}{a:A}:zF1 z true (some a)=.tup [a,.lit (.bool true)]:=rfl
@[simp] theorem qBL:zF1 (.agg #[(.int .i64 0),(.int .i64 0),(.int .i64 0),(.int .i64 0),(.int .i64 0),(.int .i64 0),(.int .i64 0),(.int .i64 0),(.int .i64 0),(.int .i64 0),(.int .i64 0),(.int .i64 0),(.slice none 0 0),(.slice none 0 0),(.slice none 0 0)]) true none=.tup [.agg zE,.lit (.bool false)]:=by kernel_rfl
@[simp] theorem qBK:zF1 (.agg #[(.int .i64 0),(.int .i64 0),(.int .i64 0),(.int .i64 0),(.int .i64 0),(.int .i64 0),(.int .i64 0),(.string ⟨#[]⟩),(.slice none 0 0),(.int .i64 0),(.int .i64 0),(.int .i64 0),(.int .i64 0),(.slice none 0 0),(.int .i64 0),(.int .i64 0),(.int .i64 0),(.int .i64 0),(.int .i64 0),(.int .i64 0),(.int .i64 0),(.int .i64 0),(.int .i64 0),(.int .i64 0),(.int .i64 0),(.int .i64 0),(.slice none 0 0),(.slice none 0 0),(.slice none 0 0),(.int .i64 0),(.slice none 0 0)]) true none=.tup [.agg zD,.lit (.bool false)]:=by kernel_rfl
@[simp] theorem qPo:zE.length=15:=rfl
@[simp] theorem qPn:zD.length=31:=rfl
def zBv {α : Type}(idf : α→Id)(enc : α→List A)(l:List α):List (List Int×A):=l.map fun x=>(zBb (idf x),.agg (enc x))
def zIr {α : Type}(idf : α→Id)(l:List α)(i:Id):Option α:=l.find? fun x=>decide (idf x=i)
theorem zBV {α : Type}{idf : α→Id}{enc : α→List A}{i:Id}:∀(l:List α),zA1 (zBb i) (zBv idf enc l)=(zIr idf l i).map fun x=>.agg (enc x)
 | []=>rfl
 | x::l=>by
  simp only[zBv,List.map_cons,zA1,zIr,List.find?_cons];by_cases h:idf x=i
  ·simp[h]
  ·have h':¬zBb (idf x)=zBb i:=fun e=>h (zF2.1 e)
   simp only[h',if_false,h,decide_false];exact zBV l
theorem zI8 {α : Type}{idf : α→Id}{enc : α→List A}{x : α}:∀(l:List α),zIr idf l (idf x)=none→zDm (zBb (idf x)) (.agg (enc x)) (zBv idf enc l)=zBv idf enc (l++[x])
 | [],_=>rfl
 | y::l,h=>by
  simp only[zIr,List.find?_cons]at h;split at h
  ·cases h
  ·rename_i hy;have h':¬zBb (idf y)=zBb (idf x):=fun e=>by have:=zF2.1 e;simp[this]at hy
   simp only[zBv,List.map_cons,zDm,h',if_false,List.cons_append]
   congr 1
   exact zI8 l h
@[simp] theorem zRl {α : Type}{idf : α→Id}{enc : α→List A}{rf:Bool→Nat→Nat→A}{g:Nat→Option Nat}(hp:∀x,jE (enc x))(l:List α):((zBv idf enc l).map fun p=>(p.1,vw rf g p.2))=zBv idf enc l:=by
 simp only[zBv,List.map_map];refine List.map_congr_left fun x _=>?_
 simp[(hp x).2]
@[simp] theorem qKC {rf:Bool→Nat→Nat→A}{g:Nat→Option Nat}(l:List Exp):((zBv Exp.id zF l).map fun p=>(p.1,vw rf g p.2))=zBv Exp.id zF l:=zRl zGG l
@[simp] theorem qKB {rf:Bool→Nat→Nat→A}{g:Nat→Option Nat}(l:List Dfn):((zBv Dfn.id zP l).map fun p=>(p.1,vw rf g p.2))=zBv Dfn.id zP l:=zRl zE4 l
def zFj {α : Type}(idf : α→Id)(l:List α)(x : α):List α:=if (zIr idf l (idf x)).isSome then l else l++[x]
mutual
def zQ0:Exp→List Exp→List Exp
 | .mk i k n r t l nm,N=>zEw l (zFj Exp.id N (.mk i k n r t l nm))
def zEw:List Exp→List Exp→List Exp
 | [],N=>N
 | e::l,N=>zEw l (zQ0 e N)
end
theorem zPb (e:Exp)(N:List Exp):zQ0 e N=zEw e.kids (zFj Exp.id N e):=by cases e; simp only[zQ0,Exp.kids]
theorem zGV (x:Exp):∀(l:List Exp) (N:List Exp),zEw (l++[x]) N=zQ0 x (zEw l N)
 | [],N=>by simp only[List.nil_append,zEw]
 | e::l,N=>by simp only[List.cons_append,zEw,zGV x l]
def zBM (D:List Dfn)(N:List Exp):St:=[.box [.map 2,.map 3],.box [.clo 103 [] [.ptr 0 0,.ptr 1 0]],.mp true 3 (zBv Dfn.id zP D),.mp true 3 (zBv Exp.id zF N)]
mutual
theorem zLc:∀(e:Exp) (D:List Dfn) (N:List Exp),Ret Tryz.prog 103 [.agg (zF e),.ptr 0 0,.ptr 1 0] (zBM D N) (.tup []) (zBM D (zQ0 e N))
 | .mk i k n r t l nm,D,N=>by
  have ih:=zM1 l;generalize ha:Exp.mk i k n r t l nm=e;have hal:e.kids=l:=by rw[←ha]; rfl
  rw[←hal]at ih;refine zK Tryz.func103 rfl qAP (rs:=[]) (by kernel_rfl) ?_;unfold zTB;have hf:=zBV (i:=e.id) (enc:=zF) (idf:=Exp.id) N;simp only[zBb]at hf;cases hh:zIr Exp.id N e.id with
  | some x =>
   rw[hh]at hf;simp only[Option.map_some]at hf;have hins:zFj Exp.id N e=N:=by simp[zFj,hh]
   simp[zBM,zF,hf];intro hl;refine qZ (S:=Nat) (fun i=>[(1,.ptr 0 0),(2,.ptr 1 0),(24,.sl e.kids.length (qL e.kids)),(25,int e.kids.length),(26,int i)]) (fun i=>zBM D (zEw (e.kids.take i) (zFj Exp.id N e))) (fun i=>i≤e.kids.length) (fun i=>e.kids.length-i) 0 (by simp)
    (zS [0,1,2,3] 0 (by decide) (by simp) (by simp[zBM,zEw,hins]) (by simp)) ?_
   intro i hi;by_cases h:i<e.kids.length
   ·have hlt:i*15<e.kids.length*15:=by omega
    have hsn:=zGV e.kids[i] (e.kids.take i) (zFj Exp.id N e);rw[←List.take_succ_eq_append_getElem h]at hsn;simp[zBM,h,yJ h,zF];refine zN (ih e.kids[i] (List.getElem_mem h) D (zEw (e.kids.take i) (zFj Exp.id N e))) [0,1,2,3] (by simp) (by simp[zBM]) (by simp[zF]) ?_;simp[zBM];exact zT (i+1) h (by omega) (zS [0,1,2,3] 0 (by decide) (by simp) (by simp[zBM,hsn]) (by simp[qB h hl]))
   ·have hil:i=e.kids.length:=by omega
    subst hil;rw[List.take_length,←zPb];simp[zBM];exact zG [0,1,2,3] 0 (by decide) (by simp) (by simp) (by simp)
  | none =>
   rw[hh]at hf;simp only[Option.map_none]at hf;have hp:=zI8 (enc:=zF) (idf:=Exp.id) (x:=e) N hh;simp only[zBb]at hp;have hins:zFj Exp.id N e=N++[e]:=by simp[zFj,hh]
   simp only[zF]at hp;simp[zBM,zF,hf,hp];intro hl;refine qZ (S:=Nat) (fun i=>[(1,.ptr 0 0),(2,.ptr 1 0),(24,.sl e.kids.length (qL e.kids)),(25,int e.kids.length),(26,int i)]) (fun i=>zBM D (zEw (e.kids.take i) (zFj Exp.id N e))) (fun i=>i≤e.kids.length) (fun i=>e.kids.length-i) 0 (by simp)
    (zS [0,1,2,3] 0 (by decide) (by simp) (by simp[zBM,zEw,hins]) (by simp)) ?_
   intro i hi;by_cases h:i<e.kids.length
   ·have hlt:i*15<e.kids.length*15:=by omega
    have hsn:=zGV e.kids[i] (e.kids.take i) (zFj Exp.id N e);rw[←List.take_succ_eq_append_getElem h]at hsn;simp[zBM,h,yJ h,zF];refine zN (ih e.kids[i] (List.getElem_mem h) D (zEw (e.kids.take i) (zFj Exp.id N e))) [0,1,2,3] (by simp) (by simp[zBM]) (by simp[zF]) ?_;simp[zBM];exact zT (i+1) h (by omega) (zS [0,1,2,3] 0 (by decide) (by simp) (by simp[zBM,hsn]) (by simp[qB h hl]))
   ·have hil:i=e.kids.length:=by omega
    subst hil;rw[List.take_length,←zPb];simp[zBM];exact zG [0,1,2,3] 0 (by decide) (by simp) (by simp) (by simp)
theorem zM1:∀(l:List Exp),∀x∈l,∀(D:List Dfn) (N:List Exp),Ret Tryz.prog 103 [.agg (zF x),.ptr 0 0,.ptr 1 0] (zBM D N) (.tup []) (zBM D (zQ0 x N))
 | [],x,hx,_,_=>by simp at hx
 | z::l,x,hx,D,N=>by
  rcases List.mem_cons.1 hx with e | hx
  ·rw[e]; exact zLc z D N
  ·exact zM1 l x hx D N
end
def zEA (l:List Dfn):List Dfn:=l.foldl (zFj Dfn.id) []
def zSF (N:List Exp)(d:Dfn):List Exp:=if zBO d.kind then zQ0 d.body N else N
def zEM (l:List Dfn):List Exp:=l.foldl zSF []
theorem zSl {l:List Dfn}{i:Nat}(h:i<l.length):zEA (l.take (i+1))=zFj Dfn.id (zEA (l.take i)) l[i]:=by rw[zEA,List.take_succ_eq_append_getElem h,List.foldl_append]; rfl
theorem zSE {l:List Dfn}{i:Nat}(h:i<l.length):zEM (l.take (i+1))=zSF (zEM (l.take i)) l[i]:=by rw[zEM,List.take_succ_eq_append_getElem h,List.foldl_append]; rfl
set_option maxRecDepth 100000 in
theorem zRt (p:Prg):Ret Tryz.prog 55 [.agg (zU p)] [] (.agg [.map 0,.map 1]) [.mp true 3 (zBv Dfn.id zP (zEA p.defs)),.mp true 3 (zBv Exp.id zF (zEM p.defs))]:=by
 refine zK Tryz.func55 rfl qGF (rs:=[.cell 2 2 true]) (by kernel_rfl) ?_;unfold zZc;simp[zU];intro hl;generalize p.defs=l at hl ⊢;refine qZ (S:=Nat) (fun i=>[(2,.ptr 4 0),(3,.ptr 0 0),(4,.ptr 1 0),(14,.sl l.length (zZ l)),(15,int l.length),(16,int i)]) (fun i=>zBM (zEA (l.take i)) (zEM (l.take i))++[.box [.lit (.map none),.lit (.map none)]]) (fun i=>i≤l.length) (fun i=>l.length-i) 0 (by simp)
  (zS [4,5,2,3,1] 0 (by decide) (by simp) (by simp[zBM,zEA,zEM,zBv]) (by simp)) ?_
 intro i hi;by_cases h:i<l.length
 ·have hlt:i*31<l.length*31:=by omega
  have h1:=zSl h;have h2:=zSE h;generalize zEA (l.take i)=D at h1 ⊢;generalize zEM (l.take i)=N at h2 ⊢;generalize hd:l[i]=d at h1 h2;have hcd:=yB h;rw[hd]at hcd;have hf:=zBV (i:=d.id) (enc:=zP) (idf:=Dfn.id) D;simp only[zBb]at hf;cases hh:zIr Dfn.id D d.id with
  | some x =>
   rw[hh]at hf;simp only[Option.map_some]at hf;have hins:zFj Dfn.id D d=D:=by simp[zFj,hh]
   rw[hins]at h1;simp[zBM,h,hcd,zP,hf];refine zR (zFS d) (by simp[zP]) (by simp) ?_;cases hb:zBO d.kind with
   | true =>
    rw[zSF,if_pos hb]at h2;simp;refine zN (zLc d.body D N) [0,1,2,3] (by simp) (by simp[zBM]) (by simp[zF]) ?_;simp[zBM];exact zT (i+1) h (by omega) (zS [0,1,2,3,4] 0 (by decide) (by simp) (by simp[zBM,h1,h2]) (by simp[qB h hl]))
   | false =>
    rw[zSF,if_neg (by simp[hb])]at h2;simp;exact zT (i+1) h (by omega) (zS [0,1,2,3,4] 0 (by decide) (by simp) (by simp[zBM,h1,h2]) (by simp[qB h hl]))
  | none =>
   rw[hh]at hf;simp only[Option.map_none]at hf;have hp:=zI8 (enc:=zP) (idf:=Dfn.id) (x:=d) D hh;simp only[zBb,zP]at hp;have hins:zFj Dfn.id D d=D++[d]:=by simp[zFj,hh]
   rw[hins]at h1;simp[zBM,h,hcd,zP,hf,hp];refine zR (zFS d) (by simp[zP]) (by simp) ?_;cases hb:zBO d.kind with
   | true =>
    rw[zSF,if_pos hb]at h2;simp;refine zN (zLc d.body (D++[d]) N) [0,1,2,3] (by simp) (by simp[zBM]) (by simp[zF]) ?_;simp[zBM];exact zT (i+1) h (by omega) (zS [0,1,2,3,4] 0 (by decide) (by simp) (by simp[zBM,h1,h2]) (by simp[qB h hl]))
   | false =>
    rw[zSF,if_neg (by simp[hb])]at h2;simp;exact zT (i+1) h (by omega) (zS [0,1,2,3,4] 0 (by decide) (by simp) (by simp[zBM,h1,h2]) (by simp[qB h hl]))
 ·have hil:i=l.length:=by omega
  subst hil;simp[zBM];exact zG [2,3] 0 (by decide) (by simp) (by simp) (by simp)
def zT1:K:=G [kO 2 0,kO 3 1,kZ 4 kz0,kMb 5 false] (Z (G [kMi 6 0] (K.block 0 (K.loop (Z (G [M 7 6,D 8 2 1,L 9 8 1,kN 10 9,kB 11 7 10 .lss] (Y 11 ks (K.exit 0))) (Z (K.block 1 (Z (K.dops [(0,0,D 14 2 1),(1,0,L 15 14 1),(2,0,M 16 6),(3,0,kX 17 15 16 31),(4,0,D 18 17 0),(5,0,J 19 18 3),(6,0,J 20 3 3),(7,0,⟨none,.eqs (some 21) false [.i,.i,.i] (kt 19) (kt 20)⟩)]) (Y 21 (G [D 22 2 1,L 23 22 1,M 24 6,kX 25 23 24 31,J 26 25 31,S 4 26 31,kMb 5 true] kr) ks))) (K.ops [M 12 6,kBi 13 12 1 .add,M 6 13])))))) (G [kb 27 kz0 [],S 4 27 31,kMb 5 false] kr))
theorem zZu:zL Tryz.prog Tryz.f26.ntmps (Tryz.f26.body.getD .skip)=some zT1.erase:=by kernel_rfl
@[simp] theorem qJQ:zA Tryz.prog 26=true:=by kernel_rfl
structure Bnd where
 id:Id
 n:Int
 typ:Typ
def zA9 (b:Bnd):List A:=[.lit (.int .i64 b.id.a),.lit (.int .i64 b.id.b),.lit (.int .i64 b.id.c),.lit (.int .i64 b.n),.lit (.int .i64 b.typ.k),.lit (.int .i64 b.typ.id.a),.lit (.int .i64 b.typ.id.b),.lit (.int .i64 b.typ.id.c),.sl b.typ.kids.length (jB b.typ.kids)]
theorem zGF (b:Bnd):jE (zA9 b):=by have h1:=yP b.typ.kids;exact⟨by simp[zA9,h1.1],fun rf g=>by simp[zA9,h1.2]⟩
def zQ (l:List Bnd):List A:=l.flatMap zA9
theorem zHi (l:List Bnd):jE (zQ l):=zBi zGF l
@[simp] theorem zZT (l:List Bnd):jG (zQ l)=zQ l:=(zHi l).1
@[simp] theorem qEt {rf g}(l:List Bnd):vwL rf g (zQ l)=zQ l:=(zHi l).2 _ _
@[simp] theorem qBb:zQ []=[]:=rfl
theorem zIS (x:Bnd)(l:List Bnd):zQ (x::l)=zA9 x++zQ l:=rfl
theorem zG0 (l l':List Bnd):zQ (l++l')=zQ l++zQ l':=by simp only[zQ,List.flatMap_append]
@[simp] theorem qBa (l:List Bnd):(zQ l).length=l.length*9:=by rw[zQ,zBQ (k:=9) (fun _=>rfl)]
theorem zBW {l:List Bnd}{i:Nat}(h:i<l.length):(zQ l).drop (i*9)=zA9 l[i]++zQ (l.drop (i+1)):=by rw[zQ,zQ,zCc (k:=9) (fun _=>rfl) h]
theorem zHW {l:List Bnd}{i:Nat}(h:i<l.length):zQ (l.take (i+1))=zQ (l.take i)++zA9 l[i]:=by rw[zQ,zQ,zCr (k:=9) (fun _=>rfl) h]
@[simp] theorem qHl (d:Bnd):(zA9 d).length=9:=rfl
@[simp] theorem qHk (d:Bnd):(zA9 d).take 9=zA9 d:=List.take_of_length_le (Nat.le_refl _)
@[simp] theorem qDm (d:Bnd)(l:List A):(zA9 d++l).take 9=zA9 d:=by rw[List.take_append_of_le_length (by simp)]; exact List.take_of_length_le (by simp)
@[simp] theorem qDI (d:Bnd):jG (zA9 d)=zA9 d:=(zGF d).1
@[simp] theorem qLj (d:Bnd) {rf g}:vwL rf g (zA9 d)=zA9 d:=(zGF d).2 _ _
theorem tmN {x k:Int}(h:0≤x):x.tmod k=x % k:=Int.tmod_eq_emod_of_nonneg h
theorem tdN {x k:Int}(h:0≤x):x.tdiv k=x / k:=Int.tdiv_eq_ediv_of_nonneg h
theorem zJ8 (m:Mk)(h0:0≤m.name)(h1:m.name≤1000000000000000) :
 ∃s:ByteArray,Ret Tryz.prog 81 [.ptr 0 0] (mkS m) (.lit (.string s)) (mkS {m with name:=m.name+1}):=by
 have w1:IntKind.i64.wrap (m.name+1)=m.name+1:=IntWalk.i64_in _ (by omega);have e1:(m.name+1).tmod 3=(m.name+1) % 3:=tmN (by omega);have e2:(m.name+1).tdiv 3=(m.name+1) / 3:=tdN (by omega);have e3:((m.name+1).tdiv 3).tmod 8=((m.name+1) / 3) % 8:=by rw[e2]; exact tmN (by omega)
 have w2:IntKind.i64.wrap ((m.name+1).tdiv 3)=(m.name+1).tdiv 3:=IntWalk.i64_in _ (by rw[e2]; omega);have a0:0≤(m.name+1).tmod 3:=by omega
 have a1:(m.name+1).tmod 3<3:=by omega
 have b0:0≤((m.name+1).tdiv 3).tmod 8:=by omega
 have b1:((m.name+1).tdiv 3).tmod 8<8:=by omega
 have hA:∃s1 rest,s1.size≤10∧List.drop ((m.name+1).tmod 3).toNat [A.lit (.string ⟨#[117]⟩),A.lit (.string ⟨#[118]⟩),A.lit (.string ⟨#[119]⟩)]=A.lit (.string s1)::rest:=by
  have:((m.name+1).tmod 3).toNat=0∨((m.name+1).tmod 3).toNat=1∨((m.name+1).tmod 3).toNat=2:=by omega
  rcases this with e | e | e<;>rw[e]<;>exact⟨_,_,by decide,rfl⟩
 have hB:∃s1 rest,s1.size≤10∧List.drop (((m.name+1).tdiv 3).tmod 8).toNat [A.lit (.string ⟨#[]⟩),A.lit (.string ⟨#[49]⟩),A.lit (.string ⟨#[50]⟩),A.lit (.string ⟨#[51]⟩),A.lit (.string ⟨#[52]⟩),A.lit (.string ⟨#[53]⟩),A.lit (.string ⟨#[54]⟩),A.lit (.string ⟨#[55]⟩)]=A.lit (.string s1)::rest:=by
  generalize ((m.name+1).tdiv 3).tmod 8=b at b0 b1;have:b.toNat=0∨b.toNat=1∨b.toNat=2∨b.toNat=3∨b.toNat=4∨b.toNat=5∨b.toNat=6∨b.toNat=7:=by omega
  rcases this with e | e | e | e | e | e | e | e<;>rw[e]<;>exact⟨_,_,by decide,rfl⟩
 obtain⟨sa,ra,hsa,hA⟩:=hA;obtain⟨sb,rb,hsb,hB⟩:=hB;refine⟨sa++sb,?_⟩;refine zK Tryz.func81 rfl qGB (rs:=[.slot 2]) (by kernel_rfl) ?_;unfold zYX;have h3:((m.name+1).tmod 3).toNat<3:=by omega
 have h8:(((m.name+1).tdiv 3).tmod 8).toNat<8:=by omega
 simp[mkS,mkB,w1,w2,hA,hB,a0,a1,b0,b1,h3,h8];refine⟨by omega,?_⟩;exact zG [0,1] 0 (by decide) (by simp) (by simp) (by simp)
theorem zWn (m:Mk)(b:Bnd)(h0:0≤m.temp)(h1:m.temp≤1000000000000000)(h2 : -1000000000000000≤m.left)(h3:m.left≤1000000000000000) :
 Ret Tryz.prog 78 [.ptr 0 0,.agg (zA9 b)] (mkS m) (.agg (zF (.mk ⟨0,0,m.temp⟩ 2 b.n b.id Typ.zero [] []))) (mkS {m with temp:=m.temp+1,left:=m.left-1}):=by
 refine zK Tryz.func78 rfl qGR (rs:=[.cell 4 15 true]) (by kernel_rfl) ?_;unfold zZm;simp[mkS,mkB,zA9];refine zN (yH m 2 b.n [] h0 h1 h2 h3) [0,1] (by decide) (by simp[mkS,mkB]) (by simp) ?_;simp[mkS,mkB,zF];exact zG [0,1] 0 (by decide) (by simp) (by simp) (by simp)
theorem zKh (env:List Bnd)(t:Typ)(hE:env.length≤1000000):Ret Tryz.prog 77 [.sl env.length (zQ env),.agg (zB t)] [] (.sl (env.filter fun b=>yL b.typ t).length (zQ (env.filter fun b=>yL b.typ t))) []:=by
 refine zK Tryz.func77 rfl zTO (rs:=[.slot 4]) (by kernel_rfl) ?_;unfold zNr;simp[zB];refine qZ (S:=Nat) (fun i=>[(0,.sl env.length (zQ env)),(3,.ptr 0 0),(5,.row 1 ((env.take i).filter fun b=>yL b.typ t).length),(6,int i)]) (fun i=>[.box (zB t),.row false 96 9 ((env.take i).filter fun b=>yL b.typ t).length (zQ ((env.take i).filter fun b=>yL b.typ t))]) (fun i=>i≤env.length) (fun i=>env.length-i) 0 (by simp)
  ((yA (t:=5) (by simp) 96 9).trans (zS [0,1] 0 (by decide) (by simp) (by simp[zB]) (by simp))) ?_
 intro i hi;by_cases h:i<env.length
 ·simp[h,zBW h,zA9,zB];intro hl;refine qE (zDv env[i].typ t) (by simp[zB]) (by simp) ?_;have hst:((env.take (i+1)).filter fun b=>yL b.typ t)=((env.take i).filter fun b=>yL b.typ t)++(if yL env[i].typ t then [env[i]] else []):=by rw[List.take_succ_eq_append_getElem h,List.filter_append];cases hs:yL env[i].typ t<;>simp[hs]
  cases hs:yL env[i].typ t
  ·simp;rw[hs]at hst;simp only[Bool.false_eq_true,if_false,List.append_nil]at hst;exact zT (i+1) h (by omega) (zS [0,1] 0 (by decide) (by simp) (by simp[zB,hst]) (by simp[qB h hl,hst]))
  ·simp[h,zBW h,zA9];rw[hs]at hst;simp only[if_true]at hst;have hle:((env.take i).filter fun b=>yL b.typ t).length≤i:=Nat.le_trans (List.length_filter_le _ _) (by simp; omega);refine⟨⟨by simp[maxLen]; omega,by omega⟩,?_⟩;exact zT (i+1) h (by omega) (zS [0,1] 0 (by decide) (by simp) (by simp[zB,hst,zG0,zIS,zA9]) (by simp[qB h hl,hst]))
 ·have:i=env.length:=by omega
  subst this;simp;exact fun _=>zC 1 (by simp)
theorem zCI (env:List Bnd)(b:Bnd)(hE:env.length≤1000000):Ret Tryz.prog 82 [.sl env.length (zQ env),.agg (zA9 b)] [] (.sl (env.length+1) (zQ (env++[b]))) []:=by refine zH Tryz.func82 rfl qAQ (rs:=[.slot 4]) (by kernel_rfl) ?_;unfold zTC;simp[zA9];exact⟨⟨by simp[maxLen]; omega,by omega⟩,⟨by simp[maxLen]; omega,by omega⟩,zC 1 (by simp[zG0,zIS,zA9])⟩
def zL1 (ds:List Dfn):St:=[.row false 39 31 ds.length (zZ ds)]
def zGs (ds:List Dfn)(i:Id):Dfn×Bool:=match ds.find? fun d=>decide (d.id=i)with
 | some d=>(d,true)
 | none=>(Dfn.zero,false)
theorem zIm {ds:List Dfn}{i:Nat}{x:Id}(h:i<ds.length)(hn:∀d∈ds.take i,d.id≠x)(he:ds[i].id=x):(ds.find? fun d=>decide (d.id=x))=some ds[i]:=by
 have e:ds=ds.take i++ds[i]::ds.drop (i+1):=by rw[←List.drop_eq_getElem_cons h,List.take_append_drop]
 have h1:((ds.take i).find? fun d=>decide (d.id=x))=none:=List.find?_eq_none.2 fun d hd=>by simpa using hn d hd
 have h2:∀y,y=ds[i]→(ds.find? fun d=>decide (d.id=x))=some y:=fun y hy=>by rw[←hy]at e he;rw[e,List.find?_append,h1];simp[he]
 exact h2 _ rfl
theorem zO8 (M:List Md)(ds:List Dfn)(x:Id)(hL:ds.length≤1000000):Ret Tryz.prog 26 [.agg [.sl M.length (qM M),.row 0 ds.length],.agg (qX x)] (zL1 ds) (.tup [.agg (zP (zGs ds x).1),bl (zGs ds x).2]) (zL1 ds):=by
 refine zK Tryz.func26 rfl zZu (rs:=[.cell 4 31 true,.slot 5]) (by kernel_rfl) ?_;unfold zT1;simp[zL1,qX];refine qZ (S:=Nat) (fun i=>[(2,.ptr 1 0),(3,.ptr 2 0),(4,.ptr 3 0),(6,int i)]) (fun _=>[.row false 39 31 ds.length (zZ ds),.box [.sl M.length (qM M),.row 0 ds.length],.box (qX x),.box (zP Dfn.zero)]) (fun i=>i≤ds.length∧∀d∈ds.take i,d.id≠x) (fun i=>ds.length-i) 0 (by simp)
  (zS [0,1,2,3] 0 (by decide) (by simp) (by simp[qX,zP,Dfn.zero,Id.zero,Typ.zero,Exp.zero]) (by simp)) ?_
 rintro i ⟨hi,hn⟩;by_cases h:i<ds.length
 ·have hd:=yB h;have hb3:i*31+3≤ds.length*31:=by omega
  have hb31:i*31+31≤ds.length*31:=by omega
  have hw:IntKind.i64.wrap ((i:Int)+1)=(i:Int)+1:=IntWalk.i64_in _ (by omega);by_cases he:ds[i].id=x
  ·have hv:zGs ds x=(ds[i],true):=by unfold zGs; rw[zIm h hn he]
   have he3:zCf ds[i].id.a ds[i].id.b ds[i].id.c x.a x.b x.c=true:=by rw[zAX]; exact decide_eq_true he
   simp[h,hd,qX,zP,he3,hb3,hb31];exact zG [0] 0 (by decide) (by simp) (by simp) (by simp[hv,zP])
  ·have he3:zCf ds[i].id.a ds[i].id.b ds[i].id.c x.a x.b x.c=false:=by rw[zAX]; exact decide_eq_false he
   simp[h,hd,qX,zP,he3,hb3,hb31];exact zT (i+1) ⟨h,fun d hd'=>by
    rw[List.take_succ_eq_append_getElem h]at hd';rcases List.mem_append.1 hd' with hd' | hd'
    ·exact hn d hd'
    ·rw[List.mem_singleton.1 hd']; exact he⟩ (by omega) (zS [0,1,2,3] 0 (by decide) (by simp) (by simp[qX,zP,Dfn.zero,Id.zero,Typ.zero,Exp.zero]) (by simp[hw]))
 ·have:i=ds.length:=by omega
  subst this;rw[List.take_length]at hn;have hv:zGs ds x=(Dfn.zero,false):=by unfold zGs;rw[List.find?_eq_none.2 fun d hd=>by simpa using hn d hd]
  simp[zP,Dfn.zero,Id.zero,Typ.zero,Exp.zero]
  first | exact fun _=>zG [0] 0 (by decide) (by simp) (by simp) (by simp[hv,zP,Dfn.zero,Id.zero,Typ.zero,Exp.zero]) | exact zG [0] 0 (by decide) (by simp) (by simp) (by simp[hv,zP,Dfn.zero,Id.zero,Typ.zero,Exp.zero])
theorem zYm (M:List Md)(ds:List Dfn)(x:Id)(hL:ds.length≤1000000):Ret Tryz.prog 26 [.agg [.sl M.length (qM M),.sl ds.length (zZ ds)],.agg (qX x)] [] (.tup [.agg (zP (zGs ds x).1),bl (zGs ds x).2]) []:=by
 refine zK Tryz.func26 rfl zZu (rs:=[.cell 4 31 true,.slot 5]) (by kernel_rfl) ?_;unfold zT1;simp[zL1,qX];refine qZ (S:=Nat) (fun i=>[(2,.ptr 0 0),(3,.ptr 1 0),(4,.ptr 2 0),(6,int i)]) (fun _=>[.box [.sl M.length (qM M),.sl ds.length (zZ ds)],.box (qX x),.box (zP Dfn.zero)]) (fun i=>i≤ds.length∧∀d∈ds.take i,d.id≠x) (fun i=>ds.length-i) 0 (by simp)
  (zS [0,1,2] 0 (by decide) (by simp) (by simp[qX,zP,Dfn.zero,Id.zero,Typ.zero,Exp.zero]) (by simp)) ?_
 rintro i ⟨hi,hn⟩;by_cases h:i<ds.length
 ·have hd:=yB h;have hb3:i*31+3≤ds.length*31:=by omega
  have hb31:i*31+31≤ds.length*31:=by omega
  have hw:IntKind.i64.wrap ((i:Int)+1)=(i:Int)+1:=IntWalk.i64_in _ (by omega);by_cases he:ds[i].id=x
  ·have hv:zGs ds x=(ds[i],true):=by unfold zGs; rw[zIm h hn he]
   have he3:zCf ds[i].id.a ds[i].id.b ds[i].id.c x.a x.b x.c=true:=by rw[zAX]; exact decide_eq_true he
   simp[h,hd,qX,zP,he3,hb3,hb31];intro hl; exact zG [] 0 (by decide) (by simp) (by simp) (by simp[hv,zP])
  ·have he3:zCf ds[i].id.a ds[i].id.b ds[i].id.c x.a x.b x.c=false:=by rw[zAX]; exact decide_eq_false he
   simp[h,hd,qX,zP,he3,hb3,hb31];intro hl; exact zT (i+1) ⟨h,fun d hd'=>by
    rw[List.take_succ_eq_append_getElem h]at hd';rcases List.mem_append.1 hd' with hd' | hd'
    ·exact hn d hd'
    ·rw[List.mem_singleton.1 hd']; exact he⟩ (by omega) (zS [0,1,2] 0 (by decide) (by simp) (by simp[qX,zP,Dfn.zero,Id.zero,Typ.zero,Exp.zero]) (by simp[hw]))
 ·have:i=ds.length:=by omega
  subst this;rw[List.take_length]at hn;have hv:zGs ds x=(Dfn.zero,false):=by unfold zGs;rw[List.find?_eq_none.2 fun d hd=>by simpa using hn d hd]
  simp[zP,Dfn.zero,Id.zero,Typ.zero,Exp.zero]
  first | exact fun _=>zG [] 0 (by decide) (by simp) (by simp) (by simp[hv,zP,Dfn.zero,Id.zero,Typ.zero,Exp.zero]) | exact zG [] 0 (by decide) (by simp) (by simp) (by simp[hv,zP,Dfn.zero,Id.zero,Typ.zero,Exp.zero])
end Go.Proofs.YthglhccibdlccaaGreatDoor
