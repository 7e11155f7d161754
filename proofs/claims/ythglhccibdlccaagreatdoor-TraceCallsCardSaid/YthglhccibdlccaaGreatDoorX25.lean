/-
  trace.read: the first definition and the first node of each ID.
  The maker's functions without recursion.
-/
import Derived.Test.YthglhccibdlccaaGreatDoorX22
import Derived.Test.YthglhccibdlccaaGreatDoorX23
set_option linter.unusedVariables false
set_option linter.unusedSimpArgs false
namespace Go.Proofs.YthglhccibdlccaaGreatDoor
open Go.Abs
def zZS:K:=G [kO 1 0,kZ 2 [(.map none),(.map none)]] (G [⟨none,.mop (some 9) (.mk 3) []⟩,⟨none,.mop (some 10) (.mk 3) []⟩,kb 11 [(.map none),(.map none)] [(0,1,(kt 9)),(1,1,(kt 10))],kZ 3 [(.map none),(.map none)],S 3 11 2] (G [kZ 4 [.nilFunc]] (G [⟨none,.clo (some 12) 103 [] [(kt 3),(kt 4)]⟩,S 4 12 1] (Z (G [D 13 1 1,L 14 13 1,kN 15 14,kMi 16 0] (K.block 0 (K.loop (G [kB 17 16 15 .lss] (Z (Y 17 ks (K.exit 0)) (Z (K.block 1 (G [kX 18 14 16 31,J 19 18 31,kZ 6 kz0,S 6 19 31] (Z (G [D 21 3 0,L 22 21 1,D 23 6 0,J 24 23 3,⟨none,.mop (some 25) (.get 3 (.agg #[ki,ki,ki,ki,ki,ki,ki,(.string ⟨#[]⟩),kl,ki,ki,ki,ki,kl,ki,ki,ki,ki,ki,ki,ki,ki,ki,ki,ki,ki,kl,kl,kl,ki,kl]) true) [(kt 22),(kt 24)]⟩,M 20 25,kE 26 20 0,kE 27 20 1,kZ 7 kz0,S 7 26 31,M 8 27] (G [M 28 8,kR 29 28] (Y 29 (K.ops [D 30 3 0,L 31 30 1,D 32 6 0,J 33 32 3,J 34 6 31,⟨none,.mop none (.set 3) [(kt 31),(kt 33),(kt 34)]⟩]) ks))) (G [J 35 6 31,kC 36 43 [(kt 35)]] (Y 36 (K.ops [L 37 4 1,D 38 6 14,J 39 38 15,⟨none,.call (some 40) (kt 37) [(kt 39)]⟩]) ks))))) (K.ops [kBi 41 16 1 .add,M 16 41]))))))) (G [J 42 3 2,S 2 42 2] kr)))))
theorem qES:zN Tryz.prog Tryz.f55.ntmps (Tryz.f55.body.getD .skip)=some zZS.erase:=by kernel_rfl
@[simp] theorem qK1:zC Tryz.prog 55=true:=by kernel_rfl
def zWp:K:=G [kO 3 0] (Z (G [D 9 1 1,L 10 9 1,D 11 3 0,J 12 11 3,⟨none,.mop (some 13) (.get 3 (.agg #[ki,ki,ki,ki,ki,ki,ki,ki,ki,ki,ki,ki,kl,kl,kl]) true) [(kt 10),(kt 12)]⟩,M 8 13,kE 14 8 0,kE 15 8 1,kZ 4 kz1,S 4 14 15,M 5 15] (G [M 16 5,kR 17 16] (Y 17 (K.ops [D 18 1 1,L 19 18 1,D 20 3 0,J 21 20 3,J 22 3 15,⟨none,.mop none (.set 3) [(kt 19),(kt 21),(kt 22)]⟩]) ks))) (G [D 23 3 13,L 24 23 1,kN 25 24,kMi 26 0] (K.block 0 (K.loop (G [kB 27 26 25 .lss] (Z (Y 27 ks (K.exit 0)) (Z (K.block 1 (G [kX 28 24 26 15,J 29 28 15,kZ 7 kz1,S 7 29 15] (K.ops [L 30 2 1,J 31 7 15,⟨none,.call (some 32) (kt 30) [(kt 31)]⟩]))) (K.ops [kBi 33 26 1 .add,M 26 33]))))))))
theorem qAA:zN Tryz.prog Tryz.f103.ntmps (Tryz.f103.body.getD .skip)=some zWp.erase:=by kernel_rfl
@[simp] theorem qER:zC Tryz.prog 103=true:=by kernel_rfl
def zE:List A:=[.lit (.int .i64 0),.lit (.int .i64 0),.lit (.int .i64 0),.lit (.int .i64 0),.lit (.int .i64 0),.lit (.int .i64 0),.lit (.int .i64 0),.lit (.int .i64 0),.lit (.int .i64 0),.lit (.int .i64 0),.lit (.int .i64 0),.lit (.int .i64 0),.nil,.nil,.nil]
def zD:List A:=[.lit (.int .i64 0),.lit (.int .i64 0),.lit (.int .i64 0),.lit (.int .i64 0),.lit (.int .i64 0),.lit (.int .i64 0),.lit (.int .i64 0),.lit (.string ⟨#[]⟩),.nil,.lit (.int .i64 0),.lit (.int .i64 0),.lit (.int .i64 0),.lit (.int .i64 0),.nil,.lit (.int .i64 0),.lit (.int .i64 0),.lit (.int .i64 0),.lit (.int .i64 0),.lit (.int .i64 0),.lit (.int .i64 0),.lit (.int .i64 0),.lit (.int .i64 0),.lit (.int .i64 0),.lit (.int .i64 0),.lit (.int .i64 0),.lit (.int .i64 0),.nil,.nil,.nil,.lit (.int .i64 0),.nil]
@[simp] theorem qDd {z:Value}{a:A}:zFi z true (some a)=.tup [a,.lit (.bool true)]:=rfl
@[simp] theorem qBw:zFi (.agg #[(.int .i64 0),(.int .i64 0),(.int .i64 0),(.int .i64 0),(.int .i64 0),(.int .i64 0),(.int .i64 0),(.int .i64 0),(.int .i64 0),(.int .i64 0),(.int .i64 0),(.int .i64 0),(.slice none 0 0),(.slice none 0 0),(.slice none 0 0)]) true none=.tup [.agg zE,.lit (.bool false)]:=by kernel_rfl
@[simp] theorem qA0:zFi (.agg #[(.int .i64 0),(.int .i64 0),(.int .i64 0),(.int .i64 0),(.int .i64 0),(.int .i64 0),(.int .i64 0),(.string ⟨#[]⟩),(.slice none 0 0),(.int .i64 0),(.int .i64 0),(.int .i64 0),(.int .i64 0),(.slice none 0 0),(.int .i64 0),(.int .i64 0),(.int .i64 0),(.int .i64 0),(.int .i64 0),(.int .i64 0),(.int .i64 0),(.int .i64 0),(.int .i64 0),(.int .i64 0),(.int .i64 0),(.int .i64 0),(.slice none 0 0),(.slice none 0 0),(.slice none 0 0),(.int .i64 0),(.slice none 0 0)]) true none=.tup [.agg zD,.lit (.bool false)]:=by kernel_rfl
@[simp] theorem qNT:zE.length=15:=rfl
@[simp] theorem qN2:zD.length=31:=rfl
def zB6 {α : Type}(idf : α→Id)(enc : α→List A)(l:List α):List (List Int×A):=l.map fun x=>(zBe (idf x),.agg (enc x))
def zIv {α : Type}(idf : α→Id)(l:List α)(i:Id):Option α:=l.find? fun x=>decide (idf x=i)
theorem zBX {α : Type}{idf : α→Id}{enc : α→List A}{i:Id}:∀(l:List α),zA7 (zBe i) (zB6 idf enc l)=(zIv idf l i).map fun x=>.agg (enc x)
 | []=>rfl
 | x::l=>by
  simp only[zB6,List.map_cons,zA7,zIv,List.find?_cons];by_cases h:idf x=i
  ·simp[h]
  ·have h':¬zBe (idf x)=zBe i:=fun e=>h (zFe.1 e)
   simp only[h',if_false,h,decide_false];exact zBX l
theorem zIz {α : Type}{idf : α→Id}{enc : α→List A}{x : α}:∀(l:List α),zIv idf l (idf x)=none→zDj (zBe (idf x)) (.agg (enc x)) (zB6 idf enc l)=zB6 idf enc (l++[x])
 | [],_=>rfl
 | y::l,h=>by
  simp only[zIv,List.find?_cons]at h;split at h
  ·cases h
  ·rename_i hy;have h':¬zBe (idf y)=zBe (idf x):=fun e=>by have:=zFe.1 e;simp[this]at hy
   simp only[zB6,List.map_cons,zDj,h',if_false,List.cons_append]
   congr 1
   exact zIz l h
@[simp] theorem zR6 {α : Type}{idf : α→Id}{enc : α→List A}{rf:Bool→Nat→Nat→A}{g:Nat→Option Nat}(hp:∀x,jF (enc x))(l:List α):((zB6 idf enc l).map fun p=>(p.1,vw rf g p.2))=zB6 idf enc l:=by
 simp only[zB6,List.map_map];refine List.map_congr_left fun x _=>?_
 simp[(hp x).2]
@[simp] theorem qJS {rf:Bool→Nat→Nat→A}{g:Nat→Option Nat}(l:List Exp):((zB6 Exp.id zH l).map fun p=>(p.1,vw rf g p.2))=zB6 Exp.id zH l:=zR6 zG5 l
@[simp] theorem qKh {rf:Bool→Nat→Nat→A}{g:Nat→Option Nat}(l:List Dfn):((zB6 Dfn.id zP l).map fun p=>(p.1,vw rf g p.2))=zB6 Dfn.id zP l:=zR6 zEM l
def zEX {α : Type}(idf : α→Id)(l:List α)(x : α):List α:=if (zIv idf l (idf x)).isSome then l else l++[x]
mutual
def zQv:Exp→List Exp→List Exp
 | .mk i k n r t l nm,N=>zEs l (zEX Exp.id N (.mk i k n r t l nm))
def zEs:List Exp→List Exp→List Exp
 | [],N=>N
 | e::l,N=>zEs l (zQv e N)
end
theorem zOH (e:Exp)(N:List Exp):zQv e N=zEs e.kids (zEX Exp.id N e):=by cases e; simp only[zQv,Exp.kids]
theorem zGo (x:Exp):∀(l:List Exp) (N:List Exp),zEs (l++[x]) N=zQv x (zEs l N)
 | [],N=>by simp only[List.nil_append,zEs]
 | e::l,N=>by simp only[List.cons_append,zEs,zGo x l]
def zBN (D:List Dfn)(N:List Exp):St:=[.box [.map 2,.map 3],.box [.clo 103 [] [.ptr 0 0,.ptr 1 0]],.mp true 3 (zB6 Dfn.id zP D),.mp true 3 (zB6 Exp.id zH N)]
mutual
theorem zJV:∀(e:Exp) (D:List Dfn) (N:List Exp),Ret Tryz.prog 103 [.agg (zH e),.ptr 0 0,.ptr 1 0] (zBN D N) (.tup []) (zBN D (zQv e N))
 | .mk i k n r t l nm,D,N=>by
  have ih:=zLv l;generalize ha:Exp.mk i k n r t l nm=e;have hal:e.kids=l:=by rw[←ha]; rfl
  rw[←hal]at ih;refine zK Tryz.func103 rfl qAA (rs:=[]) (by kernel_rfl) ?_;unfold zWp;have hf:=zBX (i:=e.id) (enc:=zH) (idf:=Exp.id) N;simp only[zBe]at hf;cases hh:zIv Exp.id N e.id with
  | some x =>
   rw[hh]at hf;simp only[Option.map_some]at hf;have hins:zEX Exp.id N e=N:=by simp[zEX,hh]
   simp[zBN,zH,hf];intro hl;refine qP (S:=Nat) (fun i=>[(1,.ptr 0 0),(2,.ptr 1 0),(24,.sl e.kids.length (qR e.kids)),(25,int e.kids.length),(26,int i)]) (fun i=>zBN D (zEs (e.kids.take i) (zEX Exp.id N e))) (fun i=>i≤e.kids.length) (fun i=>e.kids.length-i) 0 (by simp)
    (zV [0,1,2,3] 0 (by decide) (by simp) (by simp[zBN,zEs,hins]) (by simp)) ?_
   intro i hi;by_cases h:i<e.kids.length
   ·have hlt:i*15<e.kids.length*15:=by omega
    have hsn:=zGo e.kids[i] (e.kids.take i) (zEX Exp.id N e);rw[←List.take_succ_eq_append_getElem h]at hsn;simp[zBN,h,yE h,zH];refine zM (ih e.kids[i] (List.getElem_mem h) D (zEs (e.kids.take i) (zEX Exp.id N e))) [0,1,2,3] (by simp) (by simp[zBN]) (by simp[zH]) ?_;simp[zBN];exact zW (i+1) h (by omega) (zV [0,1,2,3] 0 (by decide) (by simp) (by simp[zBN,hsn]) (by simp[qH h hl]))
   ·have hil:i=e.kids.length:=by omega
    subst hil;rw[List.take_length,←zOH];simp[zBN];exact zF [0,1,2,3] 0 (by decide) (by simp) (by simp) (by simp)
  | none =>
   rw[hh]at hf;simp only[Option.map_none]at hf;have hp:=zIz (enc:=zH) (idf:=Exp.id) (x:=e) N hh;simp only[zBe]at hp;have hins:zEX Exp.id N e=N++[e]:=by simp[zEX,hh]
   simp only[zH]at hp;simp[zBN,zH,hf,hp];intro hl;refine qP (S:=Nat) (fun i=>[(1,.ptr 0 0),(2,.ptr 1 0),(24,.sl e.kids.length (qR e.kids)),(25,int e.kids.length),(26,int i)]) (fun i=>zBN D (zEs (e.kids.take i) (zEX Exp.id N e))) (fun i=>i≤e.kids.length) (fun i=>e.kids.length-i) 0 (by simp)
    (zV [0,1,2,3] 0 (by decide) (by simp) (by simp[zBN,zEs,hins]) (by simp)) ?_
   intro i hi;by_cases h:i<e.kids.length
   ·have hlt:i*15<e.kids.length*15:=by omega
    have hsn:=zGo e.kids[i] (e.kids.take i) (zEX Exp.id N e);rw[←List.take_succ_eq_append_getElem h]at hsn;simp[zBN,h,yE h,zH];refine zM (ih e.kids[i] (List.getElem_mem h) D (zEs (e.kids.take i) (zEX Exp.id N e))) [0,1,2,3] (by simp) (by simp[zBN]) (by simp[zH]) ?_;simp[zBN];exact zW (i+1) h (by omega) (zV [0,1,2,3] 0 (by decide) (by simp) (by simp[zBN,hsn]) (by simp[qH h hl]))
   ·have hil:i=e.kids.length:=by omega
    subst hil;rw[List.take_length,←zOH];simp[zBN];exact zF [0,1,2,3] 0 (by decide) (by simp) (by simp) (by simp)
theorem zLv:∀(l:List Exp),∀x∈l,∀(D:List Dfn) (N:List Exp),Ret Tryz.prog 103 [.agg (zH x),.ptr 0 0,.ptr 1 0] (zBN D N) (.tup []) (zBN D (zQv x N))
 | [],x,hx,_,_=>by simp at hx
 | z::l,x,hx,D,N=>by
  rcases List.mem_cons.1 hx with e | hx
  ·rw[e]; exact zJV z D N
  ·exact zLv l x hx D N
end
def zEE (l:List Dfn):List Dfn:=l.foldl (zEX Dfn.id) []
def zSq (N:List Exp)(d:Dfn):List Exp:=if zCu d.kind then zQv d.body N else N
def zEC (l:List Dfn):List Exp:=l.foldl zSq []
theorem zSa {l:List Dfn}{i:Nat}(h:i<l.length):zEE (l.take (i+1))=zEX Dfn.id (zEE (l.take i)) l[i]:=by rw[zEE,List.take_succ_eq_append_getElem h,List.foldl_append]; rfl
theorem zRP {l:List Dfn}{i:Nat}(h:i<l.length):zEC (l.take (i+1))=zSq (zEC (l.take i)) l[i]:=by rw[zEC,List.take_succ_eq_append_getElem h,List.foldl_append]; rfl
set_option maxRecDepth 100000 in
theorem zRu (p:Prg):Ret Tryz.prog 55 [.agg (zQ p)] [] (.agg [.map 0,.map 1]) [.mp true 3 (zB6 Dfn.id zP (zEE p.defs)),.mp true 3 (zB6 Exp.id zH (zEC p.defs))]:=by
 refine zK Tryz.func55 rfl qES (rs:=[.cell 2 2 true]) (by kernel_rfl) ?_;unfold zZS;simp[zQ];intro hl;generalize p.defs=l at hl ⊢;refine qP (S:=Nat) (fun i=>[(2,.ptr 4 0),(3,.ptr 0 0),(4,.ptr 1 0),(14,.sl l.length (zY l)),(15,int l.length),(16,int i)]) (fun i=>zBN (zEE (l.take i)) (zEC (l.take i))++[.box [.lit (.map none),.lit (.map none)]]) (fun i=>i≤l.length) (fun i=>l.length-i) 0 (by simp)
  (zV [4,5,2,3,1] 0 (by decide) (by simp) (by simp[zBN,zEE,zEC,zB6]) (by simp)) ?_
 intro i hi;by_cases h:i<l.length
 ·have hlt:i*31<l.length*31:=by omega
  have h1:=zSa h;have h2:=zRP h;generalize zEE (l.take i)=D at h1 ⊢;generalize zEC (l.take i)=N at h2 ⊢;generalize hd:l[i]=d at h1 h2;have hcd:=jX h;rw[hd]at hcd;have hf:=zBX (i:=d.id) (enc:=zP) (idf:=Dfn.id) D;simp only[zBe]at hf;cases hh:zIv Dfn.id D d.id with
  | some x =>
   rw[hh]at hf;simp only[Option.map_some]at hf;have hins:zEX Dfn.id D d=D:=by simp[zEX,hh]
   rw[hins]at h1;simp[zBN,h,hcd,zP,hf];refine zR (zFY d) (by simp[zP]) (by simp) ?_;cases hb:zCu d.kind with
   | true =>
    rw[zSq,if_pos hb]at h2;simp;refine zM (zJV d.body D N) [0,1,2,3] (by simp) (by simp[zBN]) (by simp[zH]) ?_;simp[zBN];exact zW (i+1) h (by omega) (zV [0,1,2,3,4] 0 (by decide) (by simp) (by simp[zBN,h1,h2]) (by simp[qH h hl]))
   | false =>
    rw[zSq,if_neg (by simp[hb])]at h2;simp;exact zW (i+1) h (by omega) (zV [0,1,2,3,4] 0 (by decide) (by simp) (by simp[zBN,h1,h2]) (by simp[qH h hl]))
  | none =>
   rw[hh]at hf;simp only[Option.map_none]at hf;have hp:=zIz (enc:=zP) (idf:=Dfn.id) (x:=d) D hh;simp only[zBe,zP]at hp;have hins:zEX Dfn.id D d=D++[d]:=by simp[zEX,hh]
   rw[hins]at h1;simp[zBN,h,hcd,zP,hf,hp];refine zR (zFY d) (by simp[zP]) (by simp) ?_;cases hb:zCu d.kind with
   | true =>
    rw[zSq,if_pos hb]at h2;simp;refine zM (zJV d.body (D++[d]) N) [0,1,2,3] (by simp) (by simp[zBN]) (by simp[zH]) ?_;simp[zBN];exact zW (i+1) h (by omega) (zV [0,1,2,3,4] 0 (by decide) (by simp) (by simp[zBN,h1,h2]) (by simp[qH h hl]))
   | false =>
    rw[zSq,if_neg (by simp[hb])]at h2;simp;exact zW (i+1) h (by omega) (zV [0,1,2,3,4] 0 (by decide) (by simp) (by simp[zBN,h1,h2]) (by simp[qH h hl]))
 ·have hil:i=l.length:=by omega
  subst hil;simp[zBN];exact zF [2,3] 0 (by decide) (by simp) (by simp) (by simp)
def zVq:K:=G [kO 2 0,kO 3 1,kZ 4 kz0,kMb 5 false] (Z (G [kMi 6 0] (K.block 0 (K.loop (Z (G [M 7 6,D 8 2 1,L 9 8 1,kN 10 9,kB 11 7 10 .lss] (Y 11 ks (K.exit 0))) (Z (K.block 1 (Z (K.dops [(0,0,D 14 2 1),(1,0,L 15 14 1),(2,0,M 16 6),(3,0,kX 17 15 16 31),(4,0,D 18 17 0),(5,0,J 19 18 3),(6,0,J 20 3 3),(7,0,⟨none,.eqs (some 21) false [.i,.i,.i] (kt 19) (kt 20)⟩)]) (Y 21 (G [D 22 2 1,L 23 22 1,M 24 6,kX 25 23 24 31,J 26 25 31,S 4 26 31,kMb 5 true] kr) ks))) (K.ops [M 12 6,kBi 13 12 1 .add,M 6 13])))))) (G [kb 27 kz0 [],S 4 27 31,kMb 5 false] kr))
theorem zZO:zN Tryz.prog Tryz.f26.ntmps (Tryz.f26.body.getD .skip)=some zVq.erase:=by kernel_rfl
@[simp] theorem qLe:zC Tryz.prog 26=true:=by kernel_rfl
structure Bnd where
 id:Id
 n:Int
 typ:Typ
def zAD (b:Bnd):List A:=[.lit (.int .i64 b.id.a),.lit (.int .i64 b.id.b),.lit (.int .i64 b.id.c),.lit (.int .i64 b.n),.lit (.int .i64 b.typ.k),.lit (.int .i64 b.typ.id.a),.lit (.int .i64 b.typ.id.b),.lit (.int .i64 b.typ.id.c),.sl b.typ.kids.length (jJ b.typ.kids)]
theorem zG2 (b:Bnd):jF (zAD b):=by have h1:=yP b.typ.kids;exact⟨by simp[zAD,h1.1],fun rf g=>by simp[zAD,h1.2]⟩
def zS (l:List Bnd):List A:=l.flatMap zAD
theorem zHG (l:List Bnd):jF (zS l):=zBs zG2 l
@[simp] theorem qAq (l:List Bnd):jG (zS l)=zS l:=(zHG l).1
@[simp] theorem qDo {rf g}(l:List Bnd):vwL rf g (zS l)=zS l:=(zHG l).2 _ _
@[simp] theorem qCe:zS []=[]:=rfl
theorem zIM (x:Bnd)(l:List Bnd):zS (x::l)=zAD x++zS l:=rfl
theorem zGg (l l':List Bnd):zS (l++l')=zS l++zS l':=by simp only[zS,List.flatMap_append]
@[simp] theorem qB3 (l:List Bnd):(zS l).length=l.length*9:=by rw[zS,zBS (k:=9) (fun _=>rfl)]
theorem zCc {l:List Bnd}{i:Nat}(h:i<l.length):(zS l).drop (i*9)=zAD l[i]++zS (l.drop (i+1)):=by rw[zS,zS,zBM (k:=9) (fun _=>rfl) h]
theorem zIt {l:List Bnd}{i:Nat}(h:i<l.length):zS (l.take (i+1))=zS (l.take i)++zAD l[i]:=by rw[zS,zS,zC0 (k:=9) (fun _=>rfl) h]
@[simp] theorem qGf (d:Bnd):(zAD d).length=9:=rfl
@[simp] theorem qGy (d:Bnd):(zAD d).take 9=zAD d:=List.take_of_length_le (Nat.le_refl _)
@[simp] theorem qEh (d:Bnd)(l:List A):(zAD d++l).take 9=zAD d:=by rw[List.take_append_of_le_length (by simp)]; exact List.take_of_length_le (by simp)
@[simp] theorem qEH (d:Bnd):jG (zAD d)=zAD d:=(zG2 d).1
@[simp] theorem qKW (d:Bnd) {rf g}:vwL rf g (zAD d)=zAD d:=(zG2 d).2 _ _
theorem tmN {x k:Int}(h:0≤x):x.tmod k=x % k:=Int.tmod_eq_emod_of_nonneg h
theorem tdN {x k:Int}(h:0≤x):x.tdiv k=x / k:=Int.tdiv_eq_ediv_of_nonneg h
theorem zJp (m:Mk)(h0:0≤m.name)(h1:m.name≤1000000000000000) :
 ∃s:ByteArray,Ret Tryz.prog 81 [.ptr 0 0] (mkS m) (.lit (.string s)) (mkS {m with name:=m.name+1}):=by
 have w1:IntKind.i64.wrap (m.name+1)=m.name+1:=IntWalk.i64_in _ (by omega);have e1:(m.name+1).tmod 3=(m.name+1) % 3:=tmN (by omega);have e2:(m.name+1).tdiv 3=(m.name+1) / 3:=tdN (by omega);have e3:((m.name+1).tdiv 3).tmod 8=((m.name+1) / 3) % 8:=by rw[e2]; exact tmN (by omega)
 have w2:IntKind.i64.wrap ((m.name+1).tdiv 3)=(m.name+1).tdiv 3:=IntWalk.i64_in _ (by rw[e2]; omega);have a0:0≤(m.name+1).tmod 3:=by omega
 have a1:(m.name+1).tmod 3<3:=by omega
 have b0:0≤((m.name+1).tdiv 3).tmod 8:=by omega
 have b1:((m.name+1).tdiv 3).tmod 8<8:=by omega
 have hA:∃s1 rest,s1.size≤10∧List.drop ((m.name+1).tmod 3).toNat [A.lit (.string ⟨#[117]⟩),A.lit (.string ⟨#[118]⟩),A.lit (.string ⟨#[119]⟩)]=A.lit (.string s1)::rest:=by
  have:((m.name+1).tmod 3).toNat=0∨((m.name+1).tmod 3).toNat=1∨((m.name+1).tmod 3).toNat=2:=by omega
  rcases this with e | e | e<;>rw[e]<;>exact⟨_,_,by decide,rfl⟩
 have hB:∃s1 rest,s1.size≤10∧List.drop (((m.name+1).tdiv 3).tmod 8).toNat [A.lit (.string ⟨#[]⟩),A.lit (.string ⟨#[49]⟩),A.lit (.string ⟨#[50]⟩),A.lit (.string ⟨#[51]⟩),A.lit (.string ⟨#[52]⟩),A.lit (.string ⟨#[53]⟩),A.lit (.string ⟨#[54]⟩),A.lit (.string ⟨#[55]⟩)]=A.lit (.string s1)::rest:=by
  generalize ((m.name+1).tdiv 3).tmod 8=b at b0 b1;have:b.toNat=0∨b.toNat=1∨b.toNat=2∨b.toNat=3∨b.toNat=4∨b.toNat=5∨b.toNat=6∨b.toNat=7:=by omega
  rcases this with e | e | e | e | e | e | e | e<;>rw[e]<;>exact⟨_,_,by decide,rfl⟩
 obtain⟨sa,ra,hsa,hA⟩:=hA;obtain⟨sb,rb,hsb,hB⟩:=hB;refine⟨sa++sb,?_⟩;refine zK Tryz.func81 rfl qH8 (rs:=[.slot 2]) (by kernel_rfl) ?_;unfold zYL;have h3:((m.name+1).tmod 3).toNat<3:=by omega
 have h8:(((m.name+1).tdiv 3).tmod 8).toNat<8:=by omega
 simp[mkS,mkB,w1,w2,hA,hB,a0,a1,b0,b1,h3,h8];refine⟨by omega,?_⟩;exact zF [0,1] 0 (by decide) (by simp) (by simp) (by simp)
theorem zUp (m:Mk)(b:Bnd)(h0:0≤m.temp)(h1:m.temp≤1000000000000000)(h2 : -1000000000000000≤m.left)(h3:m.left≤1000000000000000) :
 Ret Tryz.prog 78 [.ptr 0 0,.agg (zAD b)] (mkS m) (.agg (zH (.mk ⟨0,0,m.temp⟩ 2 b.n b.id Typ.zero [] []))) (mkS {m with temp:=m.temp+1,left:=m.left-1}):=by
 refine zK Tryz.func78 rfl qHA (rs:=[.cell 4 15 true]) (by kernel_rfl) ?_;unfold qAc;simp[mkS,mkB,zAD];refine zM (yH m 2 b.n [] h0 h1 h2 h3) [0,1] (by decide) (by simp[mkS,mkB]) (by simp) ?_;simp[mkS,mkB,zH];exact zF [0,1] 0 (by decide) (by simp) (by simp) (by simp)
theorem zKv (env:List Bnd)(t:Typ)(hE:env.length≤1000000):Ret Tryz.prog 77 [.sl env.length (zS env),.agg (zB t)] [] (.sl (env.filter fun b=>yK b.typ t).length (zS (env.filter fun b=>yK b.typ t))) []:=by
 refine zK Tryz.func77 rfl zWv (rs:=[.slot 4]) (by kernel_rfl) ?_;unfold zNa;simp[zB];refine qP (S:=Nat) (fun i=>[(0,.sl env.length (zS env)),(3,.ptr 0 0),(5,.row 1 ((env.take i).filter fun b=>yK b.typ t).length),(6,int i)]) (fun i=>[.box (zB t),.row false 96 9 ((env.take i).filter fun b=>yK b.typ t).length (zS ((env.take i).filter fun b=>yK b.typ t))]) (fun i=>i≤env.length) (fun i=>env.length-i) 0 (by simp)
  ((jZ (t:=5) (by simp) 96 9).trans (zV [0,1] 0 (by decide) (by simp) (by simp[zB]) (by simp))) ?_
 intro i hi;by_cases h:i<env.length
 ·simp[h,zCc h,zAD,zB];intro hl;refine qI (zDp env[i].typ t) (by simp[zB]) (by simp) ?_;have hst:((env.take (i+1)).filter fun b=>yK b.typ t)=((env.take i).filter fun b=>yK b.typ t)++(if yK env[i].typ t then [env[i]] else []):=by rw[List.take_succ_eq_append_getElem h,List.filter_append];cases hs:yK env[i].typ t<;>simp[hs]
  cases hs:yK env[i].typ t
  ·simp;rw[hs]at hst;simp only[Bool.false_eq_true,if_false,List.append_nil]at hst;exact zW (i+1) h (by omega) (zV [0,1] 0 (by decide) (by simp) (by simp[zB,hst]) (by simp[qH h hl,hst]))
  ·simp[h,zCc h,zAD];rw[hs]at hst;simp only[if_true]at hst;have hle:((env.take i).filter fun b=>yK b.typ t).length≤i:=Nat.le_trans (List.length_filter_le _ _) (by simp; omega);refine⟨⟨by simp[maxLen]; omega,by omega⟩,?_⟩;exact zW (i+1) h (by omega) (zV [0,1] 0 (by decide) (by simp) (by simp[zB,hst,zGg,zIM,zAD]) (by simp[qH h hl,hst]))
 ·have:i=env.length:=by omega
  subst this;simp;exact fun _=>zA 1 (by simp)
theorem zCJ (env:List Bnd)(b:Bnd)(hE:env.length≤1000000):Ret Tryz.prog 82 [.sl env.length (zS env),.agg (zAD b)] [] (.sl (env.length+1) (zS (env++[b]))) []:=by refine zJ Tryz.func82 rfl qBa (rs:=[.slot 4]) (by kernel_rfl) ?_;unfold zTn;simp[zAD];exact⟨⟨by simp[maxLen]; omega,by omega⟩,⟨by simp[maxLen]; omega,by omega⟩,zA 1 (by simp[zGg,zIM,zAD])⟩
def zKN (ds:List Dfn):St:=[.row false 39 31 ds.length (zY ds)]
def zGd (ds:List Dfn)(i:Id):Dfn×Bool:=match ds.find? fun d=>decide (d.id=i)with
 | some d=>(d,true)
 | none=>(Dfn.zero,false)
theorem zI5 {ds:List Dfn}{i:Nat}{x:Id}(h:i<ds.length)(hn:∀d∈ds.take i,d.id≠x)(he:ds[i].id=x):(ds.find? fun d=>decide (d.id=x))=some ds[i]:=by
 have e:ds=ds.take i++ds[i]::ds.drop (i+1):=by rw[←List.drop_eq_getElem_cons h,List.take_append_drop]
 have h1:((ds.take i).find? fun d=>decide (d.id=x))=none:=List.find?_eq_none.2 fun d hd=>by simpa using hn d hd
 have h2:∀y,y=ds[i]→(ds.find? fun d=>decide (d.id=x))=some y:=fun y hy=>by rw[←hy]at e he;rw[e,List.find?_append,h1];simp[he]
 exact h2 _ rfl
theorem zOb (M:List Md)(ds:List Dfn)(x:Id)(hL:ds.length≤1000000):Ret Tryz.prog 26 [.agg [.sl M.length (qD M),.row 0 ds.length],.agg (qL x)] (zKN ds) (.tup [.agg (zP (zGd ds x).1),bl (zGd ds x).2]) (zKN ds):=by
 refine zK Tryz.func26 rfl zZO (rs:=[.cell 4 31 true,.slot 5]) (by kernel_rfl) ?_;unfold zVq;simp[zKN,qL];refine qP (S:=Nat) (fun i=>[(2,.ptr 1 0),(3,.ptr 2 0),(4,.ptr 3 0),(6,int i)]) (fun _=>[.row false 39 31 ds.length (zY ds),.box [.sl M.length (qD M),.row 0 ds.length],.box (qL x),.box (zP Dfn.zero)]) (fun i=>i≤ds.length∧∀d∈ds.take i,d.id≠x) (fun i=>ds.length-i) 0 (by simp)
  (zV [0,1,2,3] 0 (by decide) (by simp) (by simp[qL,zP,Dfn.zero,Id.zero,Typ.zero,Exp.zero]) (by simp)) ?_
 rintro i ⟨hi,hn⟩;by_cases h:i<ds.length
 ·have hd:=jX h;have hb3:i*31+3≤ds.length*31:=by omega
  have hb31:i*31+31≤ds.length*31:=by omega
  have hw:IntKind.i64.wrap ((i:Int)+1)=(i:Int)+1:=IntWalk.i64_in _ (by omega);by_cases he:ds[i].id=x
  ·have hv:zGd ds x=(ds[i],true):=by unfold zGd; rw[zI5 h hn he]
   have he3:zCh ds[i].id.a ds[i].id.b ds[i].id.c x.a x.b x.c=true:=by rw[zA6]; exact decide_eq_true he
   simp[h,hd,qL,zP,he3,hb3,hb31];exact zF [0] 0 (by decide) (by simp) (by simp) (by simp[hv,zP])
  ·have he3:zCh ds[i].id.a ds[i].id.b ds[i].id.c x.a x.b x.c=false:=by rw[zA6]; exact decide_eq_false he
   simp[h,hd,qL,zP,he3,hb3,hb31];exact zW (i+1) ⟨h,fun d hd'=>by
    rw[List.take_succ_eq_append_getElem h]at hd';rcases List.mem_append.1 hd' with hd' | hd'
    ·exact hn d hd'
    ·rw[List.mem_singleton.1 hd']; exact he⟩ (by omega) (zV [0,1,2,3] 0 (by decide) (by simp) (by simp[qL,zP,Dfn.zero,Id.zero,Typ.zero,Exp.zero]) (by simp[hw]))
 ·have:i=ds.length:=by omega
  subst this;rw[List.take_length]at hn;have hv:zGd ds x=(Dfn.zero,false):=by unfold zGd;rw[List.find?_eq_none.2 fun d hd=>by simpa using hn d hd]
  simp[zP,Dfn.zero,Id.zero,Typ.zero,Exp.zero]
  first | exact fun _=>zF [0] 0 (by decide) (by simp) (by simp) (by simp[hv,zP,Dfn.zero,Id.zero,Typ.zero,Exp.zero]) | exact zF [0] 0 (by decide) (by simp) (by simp) (by simp[hv,zP,Dfn.zero,Id.zero,Typ.zero,Exp.zero])
theorem zXh (M:List Md)(ds:List Dfn)(x:Id)(hL:ds.length≤1000000):Ret Tryz.prog 26 [.agg [.sl M.length (qD M),.sl ds.length (zY ds)],.agg (qL x)] [] (.tup [.agg (zP (zGd ds x).1),bl (zGd ds x).2]) []:=by
 refine zK Tryz.func26 rfl zZO (rs:=[.cell 4 31 true,.slot 5]) (by kernel_rfl) ?_;unfold zVq;simp[zKN,qL];refine qP (S:=Nat) (fun i=>[(2,.ptr 0 0),(3,.ptr 1 0),(4,.ptr 2 0),(6,int i)]) (fun _=>[.box [.sl M.length (qD M),.sl ds.length (zY ds)],.box (qL x),.box (zP Dfn.zero)]) (fun i=>i≤ds.length∧∀d∈ds.take i,d.id≠x) (fun i=>ds.length-i) 0 (by simp)
  (zV [0,1,2] 0 (by decide) (by simp) (by simp[qL,zP,Dfn.zero,Id.zero,Typ.zero,Exp.zero]) (by simp)) ?_
 rintro i ⟨hi,hn⟩;by_cases h:i<ds.length
 ·have hd:=jX h;have hb3:i*31+3≤ds.length*31:=by omega
  have hb31:i*31+31≤ds.length*31:=by omega
  have hw:IntKind.i64.wrap ((i:Int)+1)=(i:Int)+1:=IntWalk.i64_in _ (by omega);by_cases he:ds[i].id=x
  ·have hv:zGd ds x=(ds[i],true):=by unfold zGd; rw[zI5 h hn he]
   have he3:zCh ds[i].id.a ds[i].id.b ds[i].id.c x.a x.b x.c=true:=by rw[zA6]; exact decide_eq_true he
   simp[h,hd,qL,zP,he3,hb3,hb31];intro hl; exact zF [] 0 (by decide) (by simp) (by simp) (by simp[hv,zP])
  ·have he3:zCh ds[i].id.a ds[i].id.b ds[i].id.c x.a x.b x.c=false:=by rw[zA6]; exact decide_eq_false he
   simp[h,hd,qL,zP,he3,hb3,hb31];intro hl; exact zW (i+1) ⟨h,fun d hd'=>by
    rw[List.take_succ_eq_append_getElem h]at hd';rcases List.mem_append.1 hd' with hd' | hd'
    ·exact hn d hd'
    ·rw[List.mem_singleton.1 hd']; exact he⟩ (by omega) (zV [0,1,2] 0 (by decide) (by simp) (by simp[qL,zP,Dfn.zero,Id.zero,Typ.zero,Exp.zero]) (by simp[hw]))
 ·have:i=ds.length:=by omega
  subst this;rw[List.take_length]at hn;have hv:zGd ds x=(Dfn.zero,false):=by unfold zGd;rw[List.find?_eq_none.2 fun d hd=>by simpa using hn d hd]
  simp[zP,Dfn.zero,Id.zero,Typ.zero,Exp.zero]
  first | exact fun _=>zF [] 0 (by decide) (by simp) (by simp) (by simp[hv,zP,Dfn.zero,Id.zero,Typ.zero,Exp.zero]) | exact zF [] 0 (by decide) (by simp) (by simp) (by simp[hv,zP,Dfn.zero,Id.zero,Typ.zero,Exp.zero])
end Go.Proofs.YthglhccibdlccaaGreatDoor
