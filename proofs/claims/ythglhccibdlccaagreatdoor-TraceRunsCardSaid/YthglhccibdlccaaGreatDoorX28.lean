/-
  value.Def, and ValidType of package value and of the reference.
  trace.Changed.
  The maker's literals.
-/
import Derived.Test.YthglhccibdlccaaGreatDoorX22
import Derived.Test.YthglhccibdlccaaGreatDoorX26
import Derived.Test.YthglhccibdlccaaGreatDoorX27
import Derived.Test.YthglhccibdlccaaGreatDoorX19
set_option linter.unusedVariables false
set_option linter.unusedSimpArgs false
namespace Go.Proofs.YthglhccibdlccaaGreatDoor
open Go.Abs
def yC (l:List Dfn)(id:Id):Option Dfn:=l.find? fun d=>decide (d.id=id)
theorem zGJ (d:Dfn)(l:List Dfn)(id:Id):yC (d::l) id=if d.id=id then some d else yC l id:=by unfold yC;rw[List.find?_cons];by_cases h:d.id=id<;>simp[h]
theorem zP2 (l:List Dfn)(id:Id):zGs l id=((yC l id).getD .zero,(yC l id).isSome):=by unfold zGs yC;cases l.find? fun d=>decide (d.id=id)<;>rfl
def zZg:K:=G [kO 2 0,kMb 3 false] (G [D 4 2 0,J 5 4 3,J 6 1 3,⟨none,.eqs (some 7) false [.i,.i,.i] (kt 5) (kt 6)⟩,M 3 7] kr)
theorem qGK:zL Tryz.prog Tryz.f90.ntmps (Tryz.f90.body.getD .skip)=some zZg.erase:=by kernel_rfl
@[simp] theorem qKa:zA Tryz.prog 90=true:=by kernel_rfl
def zZi:K:=G [kMi 4 0] (Z (G [M 6 0,kN 7 6,kMi 8 0] (K.block 0 (K.loop (G [kB 9 8 7 .lss] (Z (Y 9 ks (K.exit 0)) (Z (K.block 1 (G [M 10 8,M 5 10] (G [M 11 1,M 12 0,M 13 5,kX 14 12 13 31,J 15 14 31,⟨none,.call (some 16) (kt 11) [(kt 15)]⟩] (Y 16 (G [M 17 5,M 4 17] kr) ks)))) (K.ops [kBi 18 8 1 .add,M 8 18]))))))) (G [⟨none,.mov (some 4) (kc (-1))⟩] kr))
theorem qGM:zL Tryz.prog Tryz.f89.ntmps (Tryz.f89.body.getD .skip)=some zZi.erase:=by kernel_rfl
@[simp] theorem qKc:zA Tryz.prog 89=true:=by kernel_rfl
def zZf:K:=G [kO 2 0,kO 3 1,kZ 4 kz0,kMb 5 false] (G [D 7 2 1,L 8 7 1,⟨none,.clo (some 9) 90 [] [(kt 3)]⟩,kC 10 89 [(kt 8),(kt 9)],M 6 10] (Z (G [M 11 6,kBi 12 11 0 .lss] (Y 12 (G [kb 13 kz0 [],S 4 13 31,kMb 5 false] kr) ks)) (G [D 14 2 1,L 15 14 1,M 16 6,kX 17 15 16 31,J 18 17 31,S 4 18 31,kMb 5 true] kr)))
theorem qGJ:zL Tryz.prog Tryz.f42.ntmps (Tryz.f42.body.getD .skip)=some zZf.erase:=by kernel_rfl
@[simp] theorem qJZ:zA Tryz.prog 42=true:=by kernel_rfl
def qA3:K:=G [kO 3 0,kO 4 1,kMb 6 false] (Z (G [M 9 2,kBi 10 9 24 .gtr] (Y 10 (G [kMb 6 false] kr) ks)) (Z (G [D 11 4 0,L 12 11 1,kQi 13 12 2 false] (Y 13 (Z (K.dops [(0,0,D 14 4 1),(1,0,J 15 14 3),(2,0,kb 16 [ki,ki,ki] []),(3,0,⟨none,.eqs (some 17) false [.i,.i,.i] (kt 15) (kt 16)⟩),(4,0,M 18 17),(5,0,T 18 true (D 19 4 4)),(6,0,T 18 true (L 20 19 1)),(7,0,T 18 true (kN 21 20)),(8,0,T 18 true (kQi 22 21 1 false)),(9,0,kPf 23 18 22),(10,0,M 24 23),(11,0,T 24 true (J 25 3 2)),(12,0,T 24 true (D 26 4 4)),(13,0,T 24 true (L 27 26 1)),(14,0,T 24 true (kXi 28 27 5 0)),(15,0,T 24 true (J 29 28 5)),(16,0,T 24 true (M 30 2)),(17,0,T 24 true (kBi 31 30 1 .add)),(18,0,T 24 true (kC 32 174 [(kt 25),(kt 29),(kt 31)])),(19,0,kPf 33 24 32),(20,0,M 6 33)]) kr) ks)) (Z (G [D 34 4 4,L 35 34 1,kN 36 35,kBi 37 36 0 .gtr] (Y 37 (G [kMb 6 false] kr) ks)) (Z (G [D 38 4 0,L 39 38 1,kQi 40 39 3 false] (Y 40 (G [J 42 3 2,D 43 4 1,J 44 43 3,kC 45 26 [(kt 42),(kt 44)],M 41 45,kE 46 41 0,kE 47 41 1,kZ 7 kz0,S 7 46 31,M 8 47] (G [M 48 8,M 49 48,T 49 true (D 50 7 3),T 49 true (L 51 50 1),T 49 true (kQi 52 51 0 false),T 49 true (M 53 52),T 53 false (D 54 7 3),T 53 false (L 55 54 1),T 53 false (kQi 56 55 1 false),T 49 true (kPt 57 53 56),kPf 58 49 57,M 6 58] kr)) ks)) (G [D 59 4 1,J 60 59 3,kb 61 [ki,ki,ki] [],⟨none,.eqs (some 62) false [.i,.i,.i] (kt 60) (kt 61)⟩,M 63 62,T 63 true (D 64 4 0),T 63 true (L 65 64 1),T 63 true (kQi 66 65 0 false),T 63 true (M 67 66),T 67 false (D 68 4 0),T 67 false (L 69 68 1),
 T 67 false (kQi 70 69 1 false),T 63 true (kPt 71 67 70),kPf 72 63 71,M 6 72] kr)))))
theorem qGE:zL Tryz.prog Tryz.f174.ntmps (Tryz.f174.body.getD .skip)=some qA3.erase:=by kernel_rfl
@[simp] theorem qN8:zA Tryz.prog 174=true:=by kernel_rfl
def qFA:K:=G [kO 2 0,kO 3 1,kMb 4 false] (G [J 5 2 2,J 6 3 5,kC 7 174 [(kt 5),(kt 6),(kc 1)],M 4 7] kr)
theorem qMu:zL Tryz.prog Tryz.f157.ntmps (Tryz.f157.body.getD .skip)=some qFA.erase:=by kernel_rfl
@[simp] theorem qN9:zA Tryz.prog 157=true:=by kernel_rfl
def qFT:K:=G [kO 2 0,kO 3 1,kMb 4 false] (Z (G [kMi 5 1] (K.block 0 (K.loop (Z (G [M 8 5,kBi 9 8 24 .leq] (Y 9 ks (K.exit 0))) (Z (K.block 1 (G [D 12 3 0,L 13 12 1] (K.block 2 (Z (G [kQi 15 13 0 false,M 14 15] (Y 14 ks (K.ops [kQi 16 13 1 false,M 14 16]))) (Y 14 (G [D 17 3 1,J 18 17 3,kb 19 [ki,ki,ki] [],⟨none,.eqs (some 20) false [.i,.i,.i] (kt 18) (kt 19)⟩,M 21 20,T 21 true (D 22 3 4),T 21 true (L 23 22 1),T 21 true (kN 24 23),T 21 true (kQi 25 24 0 false),kPf 26 21 25,M 4 26] kr) (G [kQi 28 13 3 false,M 27 28] (Y 27 (G [J 30 2 2,D 31 3 1,J 32 31 3,kC 33 42 [(kt 30),(kt 32)],M 29 33,kE 34 29 0,kE 35 29 1,kZ 6 kz0,S 6 34 31,M 7 35] (G [M 36 7,M 37 36,T 37 true (D 38 6 3),T 37 true (L 39 38 1),T 37 true (kQi 40 39 0 false),T 37 true (M 41 40),T 41 false (D 42 6 3),T 41 false (L 43 42 1),T 41 false (kQi 44 43 1 false),T 37 true (kPt 45 41 44),kPf 46 37 45,M 47 46,T 47 true (D 48 3 4),T 47 true (L 49 48 1),T 47 true (kN 50 49),T 47 true (kQi 51 50 0 false),kPf 52 47 51,M 4 52] kr)) (G [kQi 54 13 2 false,M 53 54] (Y 53 (Z (G [D 55 3 1,J 56 55 3,kb 57 [ki,ki,ki] [],⟨none,.eqs (some 58) true [.i,.i,.i] (kt 56) (kt 57)⟩,M 59 58,T 59 false (D 60 3 4),T 59 false (L 61 60 1),T 59 false (kN 62 61),T 59 false (kQi 63 62 1 true),kPt 64 59 63] (Y 64 (G [kMb 4 false] kr) ks)) (K.ops [D 65 3 4,L 66 65 1,kXi 67 66 5 0,J 68 67 5,S 3 68 5])) (G [kMb 4 false] kr)))))))))) (K.ops [M 10 5,kBi 11 10 1 .add,M 5 11])))))) (G [kMb 4 false] kr))
theorem qMD:zL Tryz.prog Tryz.f127.ntmps (Tryz.f127.body.getD .skip)=some qFT.erase:=by kernel_rfl
@[simp] theorem qOe:zA Tryz.prog 127=true:=by kernel_rfl
theorem zXb (d:Dfn)(id:Id):Ret Tryz.prog 90 [.agg (zP d),.ptr 0 0] [.box (qX id)] (bl (decide (d.id=id))) [.box (qX id)]:=by refine zK Tryz.func90 rfl qGK (rs:=[.slot 3]) (by kernel_rfl) ?_;unfold zZg;simp[zP,qX,zXw];exact zG [0] 0 (by simp) (by simp) (by simp) (by simp)
def zLw:List Dfn→Id→Nat→Int
 | [],_,_=>-1
 | d::l,id,n=>if d.id=id then n else zLw l id (n+1)
theorem zLX:∀(l:List Dfn) (id:Id) (n:Nat),(yC l id=none∧zLw l id n = -1)∨∃(i:Nat) (h:i<l.length),zLw l id n=(n+i:Nat)∧yC l id=some l[i]
 | [],id,n=>.inl ⟨rfl,rfl⟩
 | d::l,id,n=>by
  simp only[zGJ,zLw];by_cases hd:d.id=id
  ·exact .inr ⟨0,by simp,by simp[hd],by simp[hd]⟩
  ·simp only[hd,if_false];rcases zLX l id (n+1)with h | ⟨i,hi,h1,h2⟩
   ·exact .inl h
   ·exact .inr ⟨i+1,by simpa using hi,by rw[h1]; congr 1; omega,by simpa using h2⟩
theorem zMP (l:List Dfn)(id:Id):Ret Tryz.prog 89 [.sl l.length (zZ l),.clo 90 [] [.ptr 0 0]] [.box (qX id)] (int (zLw l id 0)) [.box (qX id)]:=by
 refine zK Tryz.func89 rfl qGM (rs:=[.slot 4]) (by kernel_rfl) ?_;unfold zZi;simp;intro hl;refine qZ (S:=Nat) (fun i=>[(0,.sl l.length (zZ l)),(1,.clo 90 [] [.ptr 0 0]),(6,.sl l.length (zZ l)),(7,int l.length),(8,int i)]) (fun s=>[.box (qX id)]) (fun i=>i≤l.length∧zLw l id 0=zLw (l.drop i) id i) (fun i=>l.length-i) 0 (by simp)
  (zS [0] 0 (by simp) (by simp) (by simp[qX]) (by simp)) ?_
 rintro i ⟨hi,ho⟩;by_cases h:i<l.length
 ·have hd:l.drop i=l[i]::l.drop (i+1):=List.drop_eq_getElem_cons h;simp[h,yB h];refine zN (zXb l[i] id) [0] (by simp) (by simp) (by simp) ?_;simp;refine jV (fun h'=>?_) (fun h'=>?_)<;>simp at h'
  ·simp;exact zG [0] 0 (by simp) (by simp) (by simp) (by rw[ho,hd]; simp[zLw,h'])
  ·simp;exact zT (i+1) ⟨h,by rw[ho,hd]; simp[zLw,h']⟩ (by omega) (zS [0] 0 (by simp) (by simp) (by simp) (by simp[qB h hl]))
 ·have hi:i=l.length:=by omega
  subst hi;simp;exact zG [0] 0 (by simp) (by simp) (by simp) (by rw[ho]; simp[zLw])
def zAL (p:Prg)(id:Id):A:=.tup [.agg (zP ((yC p.defs id).getD .zero)),bl (yC p.defs id).isSome]
theorem zE3 (p:Prg)(id:Id):Ret Tryz.prog 42 [.agg (zU p),.agg (qX id)] [] (zAL p id) []:=by
 refine zK Tryz.func42 rfl qGJ (rs:=[.cell 4 31 true,.slot 5]) (by kernel_rfl) ?_;unfold zZf;simp[zU];refine zN (zMP p.defs id) [1] (by simp) (by simp) (by simp) ?_;simp;rcases zLX p.defs id 0 with ⟨h1,h2⟩ | ⟨i,hi,h1,h2⟩
 ·simp[h2];exact zC 0 (by simp[zAL,h1,zP,Dfn.zero,Id.zero,Typ.zero,Exp.zero])
 ·have hn:¬((i:Int)<0):=by omega
  simp[h1,hn,hi,yB hi];exact zC 0 (by simp[zAL,h2])
theorem zIA (p:Prg)(hL:p.defs.length≤1000000)(id:Id):Ret Tryz.prog 26 [.agg (zU p),.agg (qX id)] [] (zAL p id) []:=by have h:=zYm p.mods p.defs id hL;rw[zP2]at h;exact h
def zF3:Option Dfn→Bool
 | some d=>decide (d.kind=0∨d.kind=1)
 | none=>false
def jW (p:Prg):Nat→Typ→Bool
 | 0,_=>false
 | n+1,t=>if t.k=2 then (match t.kids with
  | [x]=>decide (t.id=Id.zero)&&jW p n x
  | _=>false) else if t.kids≠[] then false else if t.k=3 then zF3 (yC p.defs t.id) else decide (t.id=Id.zero)&&decide (t.k=0∨t.k=1)
def validT (p:Prg)(t:Typ):Bool:=jW p 24 t
theorem zHE (p:Prg)(hL:p.defs.length≤1000000):∀(n:Nat) (d:Int) (t:Typ),d=25-(n:Int)→n≤24→Ret Tryz.prog 174 [.agg (zU p),.agg (zB t),int d] [] (bl (jW p n t)) []
 | 0,d,t,hd,_=>by refine zK Tryz.func174 rfl qGE (rs:=[.slot 6]) (by kernel_rfl) ?_;unfold qA3;subst hd;simp[zB,zU];exact zC 0 (by simp[jW])
 | n+1,d,t,hd,hn=>by
  refine zK Tryz.func174 rfl qGE (rs:=[.slot 6]) (by kernel_rfl) ?_;unfold qA3;have h24:¬(24<d):=by omega
  cases t with
  | mk k id kids =>
  by_cases hk:k=2
  ·subst hk;by_cases hid:id=Id.zero
   ·subst hid;rcases kids with _ | ⟨x,_ | ⟨y,l⟩⟩
    ·simp[zB,zU,h24];exact zC 0 (by simp[jW])
    ·have hw:IntKind.i64.wrap (d+1)=d+1:=IntWalk.i64_in _ (by omega);simp[zB,zU,h24];refine qE (zHE p hL n (d+1) x (by omega) (by omega)) (by simp[zU,zB,hw,qN]) (by simp) ?_;simp;exact zC 0 (by simp[jW,Id.zero])
    ·have h1:¬((l.length:Int)+1+1=1):=by omega
     simp[zB,zU,h24,h1];exact zC 0 (by simp[jW])
   ·have hv:jW p (n+1) (.mk 2 id kids)=false:=by simp only[jW,Typ.k_mk,Typ.id_mk,Typ.kids_mk,if_true];split<;>simp[hid]
    simp[zB,zU,h24,hid,hv];exact zC 0 (by simp)
  ·rcases kids with _ | ⟨x,l⟩
   ·by_cases h3:k=3
    ·subst h3;simp[zB,zU,h24];refine zR (zIA p hL id) (by simp[zU,qX]) (by simp[zAL]) ?_;cases hf:yC p.defs id with
     | none =>
      simp[zAL,hf,zP,Dfn.zero,Id.zero,Typ.zero,Exp.zero];exact zC 0 (by simp[jW,hf,zF3])
     | some f =>
      by_cases h0:f.kind=0
      ·simp[zAL,hf,zP,h0];exact zC 0 (by simp[jW,hf,zF3,h0])
      ·simp[zAL,hf,zP,h0];exact zC 0 (by simp[jW,hf,zF3,h0])
    ·by_cases hid:id=Id.zero
     ·subst hid;by_cases h0:k=0
      ·subst h0;simp[zB,zU,h24];exact zC 0 (by simp[jW,Id.zero])
      ·simp[zB,zU,h24,hk,h3,h0];exact zC 0 (by simp[jW,Id.zero,hk,h3,h0])
     ·simp[zB,zU,h24,hk,h3,hid];have hv:jW p (n+1) (.mk k id [])=false:=by simp only[jW,Typ.k_mk,Typ.id_mk,Typ.kids_mk,hk,h3,if_false];simp[hid]
      exact zC 0 (by rw[hv]; simp)
   ·have hl:(0:Int)<(l.length:Int)+1:=by omega
    simp[zB,zU,h24,hk,hl];have hv:jW p (n+1) (.mk k id (x::l))=false:=by simp only[jW,Typ.k_mk,Typ.id_mk,Typ.kids_mk,hk,if_false];rfl
    exact fun _=>zC 0 (by rw[hv]; simp)
theorem zOA (p:Prg)(hL:p.defs.length≤1000000)(t:Typ):Ret Tryz.prog 157 [.agg (zU p),.agg (zB t)] [] (bl (validT p t)) []:=by refine zK Tryz.func157 rfl qMu (rs:=[.slot 4]) (by kernel_rfl) ?_;unfold qFA;simp[zU,zB];refine zR (zHE p hL 24 1 t (by omega) (by omega)) (by simp[zU,zB]) (by simp) ?_;simp;exact zC 0 (by simp[validT])
theorem zWk (p:Prg)(t0:Typ):Ret Tryz.prog 127 [.agg (zU p),.agg (zB t0)] [] (bl (validT p t0)) []:=by
 refine zK Tryz.func127 rfl qMD (rs:=[.slot 4]) (by kernel_rfl) ?_;unfold qFT;simp[zU];refine qZ (S:=Nat×Typ) (fun s=>[(2,.ptr 0 0),(3,.ptr 1 0),(5,int s.1)]) (fun s=>[.box (zU p),.box (zB s.2)]) (fun s=>1≤s.1∧s.1≤25∧validT p t0=jW p (25-s.1) s.2) (fun s=>25-s.1) (1,t0) (by simp[validT])
  (zS [0,1] 0 (by simp) (by simp) (by simp[zU]) (by simp)) ?_
 rintro⟨i,t⟩ ⟨hi0,hi,ho⟩;simp only at hi0 hi ho;by_cases h:i≤24
 ·have hi24:(i:Int)≤24:=by omega
  obtain⟨n,hn⟩:∃n,25-i=n+1:=⟨24-i,by omega⟩;have hn':25-(i+1)=n:=by omega
  have hw:IntKind.i64.wrap ((i:Int)+1)=(i:Int)+1:=IntWalk.i64_in _ (by omega);rw[hn]at ho;cases t with
  | mk k id kids =>
  by_cases h2:k=2
  ·subst h2;by_cases hid:id=Id.zero
   ·subst hid;rcases kids with _ | ⟨x,_ | ⟨y,l⟩⟩
    ·simp[zB,zU,hi24];exact zC 0 (by rw[ho]; simp[jW])
    ·simp[zB,zU,hi24];intro _;refine zT (i+1,x) ⟨by simp,by simp only; omega,?_⟩ (by simp only; omega) (zS [0,1] 0 (by simp) (by simp) (by simp[zU,zB,qN]) (by simp[hw]));simp only;rw[ho,hn'];simp[jW]
    ·have h1:¬((l.length:Int)+1+1=1):=by omega
     simp[zB,zU,hi24,h1];exact fun _=>zC 0 (by rw[ho]; simp[jW])
   ·have hv:jW p (n+1) (.mk 2 id kids)=false:=by simp only[jW,Typ.k_mk,Typ.id_mk,Typ.kids_mk,if_true];split<;>simp[hid]
    simp[zB,zU,hi24,hid];exact zC 0 (by rw[ho,hv]; simp)
  by_cases h3:k=3
  ·subst h3;simp[zB,zU,hi24];refine zR (zE3 p id) (by simp[zU,qX]) (by simp[zAL]) ?_;cases hf:yC p.defs id with
   | none =>
    have hv:jW p (n+1) (.mk 3 id kids)=false:=by cases kids<;>simp[jW,hf,zF3]
    simp[zAL,hf,zP,Dfn.zero,Id.zero,Typ.zero,Exp.zero];exact zC 0 (by rw[ho,hv]; simp)
   | some f =>
    by_cases h0:f.kind=0∨f.kind=1
    ·have hv:jW p (n+1) (.mk 3 id kids)=decide (kids.length=0):=by cases kids<;>simp[jW,hf,zF3,h0]
     rcases h0 with h0 | h0
     ·simp[zAL,hf,zP,h0];exact fun _=>zC 0 (by rw[ho,hv]; simp)
     ·simp[zAL,hf,zP,h0];exact fun _=>zC 0 (by rw[ho,hv]; simp)
    ·have hv:jW p (n+1) (.mk 3 id kids)=false:=by cases kids<;>simp[jW,hf,zF3,h0]
     have g0:f.kind≠0:=fun e=>h0 (.inl e)
     have g1:f.kind≠1:=fun e=>h0 (.inr e)
     simp[zAL,hf,zP,g0,g1];exact zC 0 (by rw[ho,hv]; simp)
  ·by_cases h0:k=0∨k=1
   ·by_cases hid:id=Id.zero
    ·subst hid;have hv:jW p (n+1) (.mk k Id.zero kids)=decide (kids.length=0):=by cases kids<;>simp[jW,h2,h3,h0]
     rcases h0 with rfl | rfl
     ·simp[zB,zU,hi24];exact fun _=>zC 0 (by rw[ho,hv]; simp)
     ·simp[zB,zU,hi24];exact fun _=>zC 0 (by rw[ho,hv]; simp)
    ·have hv:jW p (n+1) (.mk k id kids)=false:=by simp only[jW,Typ.k_mk,Typ.id_mk,Typ.kids_mk,h2,h3,if_false];simp[hid]
     rcases h0 with rfl | rfl
     ·simp[zB,zU,hi24,hid];exact zC 0 (by rw[ho,hv]; simp)
     ·simp[zB,zU,hi24,hid];exact zC 0 (by rw[ho,hv]; simp)
   ·have hv:jW p (n+1) (.mk k id kids)=false:=by simp only[jW,Typ.k_mk,Typ.id_mk,Typ.kids_mk,h2,h3,if_false];simp[h0]
    have g0:k≠0:=fun e=>h0 (.inl e)
    have g1:k≠1:=fun e=>h0 (.inr e)
    simp[zB,zU,hi24,g0,g1,h2,h3];exact zC 0 (by rw[ho,hv]; simp)
 ·have:i=25:=by omega
  subst this;simp;exact zC 0 (by rw[ho]; simp[jW])
def qFa:K:=G [kO 2 0,kO 3 1,kMn 4] (Z (K.wk (K.dops [(0,1,J 7 2 2),(2,1,J 9 3 2),(1,7,kC 8 55 [(kt 7)]),(3,7,kC 10 55 [(kt 9)]),(4,302,⟨none,.alr (some 5) 2 [(.map none),(.map none)]⟩),(5,303,⟨none,.alr (some 6) 3 [(.map none),(.map none)]⟩),(6,0,S 5 8 2),(7,0,S 6 10 2)])) (Z (K.dops [(0,1,D 11 5 0),(1,1,L 12 11 1),(2,1,D 13 6 0),(3,1,L 14 13 1),(5,1,D 16 5 1),(6,1,L 17 16 1),(7,1,D 18 6 1),(8,1,L 19 18 1),(4,8,kC 15 56 [(kt 12),(kt 14),(.func 57)]),(9,8,kC 20 58 [(kt 17),(kt 19),(.func 59)]),(10,0,kP 21 29 3 24 15 20),(11,4,kC 22 48 [(kt 21)]),(12,0,M 4 22)]) kr))
def qOu:Nat→Option (List (Nat×Nat)):=fun r=>match r with | 1=>some [(0,1),(2,1),(1,7),(3,7),(4,302),(5,303),(6,0),(7,0)] | 2=>some [(0,1),(1,1),(2,1),(3,1),(5,1),(6,1),(7,1),(8,1),(4,8),(9,8),(10,0),(11,4),(12,0)] | _=>none
theorem qLL:qC Tryz.prog Tryz.f21.ntmps qOu (Tryz.f21.body.getD .skip)=some qFa.erase:=by kernel_rfl
@[simp] theorem qMH:zA Tryz.prog 21=true:=by kernel_rfl
@[simp] theorem qJh {f:Nat}{o:KOp}{env:Env}(h1:6<f)(h2:f<1000):zAP f o env=True:=by
 unfold zAP;split
 ·omega
 ·omega
 ·rw[if_neg (by omega),if_neg (by omega),if_neg (by omega)]
@[simp] theorem qE5 {P:Program}{Qd:Value→St→Prop}{f d l:Nat}{zs:List Value}{K':Env→St→Prop}{env:Env} {σ : St}:jF P Qd f K' (.alr (some d) l zs) env σ = wpO P zA8 K' (.alr (some d) l zs) env σ:=by simp[jF,KOp.lite,KOp.keeps]
@[simp] theorem qLz {P:Program}{d l:Nat}{zs:List Value}{Qp:Value→Env→St→Prop}{K':Env→St→Prop}{env:Env} {σ : St}:wpO P Qp K' (.alr (some d) l zs) env σ = (match σ[l]? with
 | some .rsv=>K' (env.put (some d) (.ptr l 0)) (σ.set l (.box (zs.map jC)))
 | _=>False):=rfl
theorem zP0 {P:Program} {σ : St}{d:Option Nat}{env:Env}{K:Env→St→Prop}{f:FuncId}{l n:Nat}{e:TypeId}{sz:Nat}{cs:List A}{r:A}(hσ : σ[l]?=some (.row false e sz n cs))(h:Ret P f [.sl n cs] [] r [])(ha:zBo [] [.sl n cs] [.sl n cs])
 (hq:K (env.put d (ren [] σ.length r)) (σ.set l (.row true e sz n cs))):zFO P σ d K f [.row l n] env:=by
 refine⟨_,_,zRQ hσ (zAw h [] (by simp) trivial ha ⟨rfl,rfl⟩),?_⟩
 simpa using hq
def zUr (p q:List Dfn):List Id:=zBJ (zNF Dfn.id zEa (zEA p) (zEA q)++zNF Exp.id zEb (zEM p) (zEM q))
theorem zSQ {l l':List Id}(h:l.Perm l'):zBJ l=zBJ l':=(zDo l).unique (zDo l') fun x=>by rw[zB9,zB9,h.mem_iff]
set_option maxRecDepth 100000 in
theorem zPy (p q:Prg)(h1:(zEA p.defs).length≤100000)(h2:(zEA q.defs).length≤100000)(h3:(zEM p.defs).length≤300000)(h4:(zEM q.defs).length≤300000) :
 Ret Tryz.prog 21 [.agg (zU p),.agg (zU q)] [] (.sl (zUr p.defs q.defs).length (qF (zUr p.defs q.defs))) []:=by
 refine zH Tryz.func21 rfl qLL (rs:=[.slot 4]) (by kernel_rfl) ?_;unfold qFa;simp;refine⟨_,_,zAc 2,?_⟩;simp[zU];refine zQR (zRt p) (by simp) (by simp[zU]) ?_;simp;refine zQR (zRt q) (by simp) (by simp[zU]) ?_;simp;refine zUw (zP3 57 (by kernel_rfl) zEa zQn (zEA p.defs) (zEA q.defs) (by omega) (by omega)) [4,6] (by simp) (by simp) (by simp) (fun v τ h=>by obtain⟨l,_,h,_⟩:=h; cases h) fun r τ h=>?_
 obtain⟨l1,hl1,hr,rfl⟩:=h;cases hr;refine⟨by simp; exact yW.append _ [_],?_⟩;simp;refine zUw (zP4 59 (by kernel_rfl) zEb zOK (zEM p.defs) (zEM q.defs) (by omega) (by omega)) [5,7] (by simp) (by simp) (by simp) (fun v τ h=>by obtain⟨l,_,h,_⟩:=h; cases h) fun r τ h=>?_
 obtain⟨l2,hl2,hr,rfl⟩:=h;cases hr;refine⟨by simp; exact yW.append _ [_],?_⟩;simp;have e1:=hl1.length_eq;have e2:=hl2.length_eq;have k1:(zNF Dfn.id zEa (zEA p.defs) (zEA q.defs)).length≤200000:=by have:=List.length_filter_le (cD1 Dfn.id (zEA q.defs) zEa) (zEA p.defs);have:=List.length_filter_le (cD2 Dfn.id (zEA p.defs)) (zEA q.defs);simp only[zNF,List.length_append,List.length_map]; omega
 have k2:(zNF Exp.id zEb (zEM p.defs) (zEM q.defs)).length≤600000:=by have:=List.length_filter_le (cD1 Exp.id (zEM q.defs) zEb) (zEM p.defs);have:=List.length_filter_le (cD2 Exp.id (zEM p.defs)) (zEM q.defs);simp only[zNF,List.length_append,List.length_map]; omega
 refine⟨⟨by simp[maxLen]; omega,by omega⟩,?_⟩;have hs:=zFI (l1++l2) (by rw[List.length_append]; omega);rw[zSQ (hl1.append hl2),List.length_append,jJ]at hs;refine zP0 rfl hs (by simp) ?_;simp;exact zC 0 (by simp[zUr])
def zPi:K:=G [kO 6 1,kZ 10 kz1] (Z (G [D 23 6 0,L 24 23 1,kQi 25 24 0 false] (Y 25 (G [M 26 3,kBi 27 26 9 .rem,kBi 28 27 2 .sub,M 11 28] (Z (G [M 29 3,kBi 30 29 29 .rem,kQi 31 30 3 false] (Y 31 (K.ops [M 32 3,kBi 33 32 2 .rem,⟨none,.bin (some 34) .sub (kc 1099511627776) (kt 33)⟩,M 11 34]) ks)) (G [M 35 0,M 36 11,kC 37 80 [(kt 35),(kc 0),(kt 36),(.const kl)],S 10 37 15] kr))) ks)) (Z (G [D 38 6 0,L 39 38 1,kQi 40 39 1 false] (Y 40 (G [M 41 0,M 42 3,kBi 43 42 2 .rem,kC 44 80 [(kt 41),(kc 1),(kt 43),(.const kl)],S 10 44 15] kr) ks)) (Z (G [D 45 6 0,L 46 45 1,kQi 47 46 2 false] (Y 47 (G [kMn 12] (Z (G [kMi 13 0] (K.block 0 (K.loop (Z (G [M 48 13,M 49 3,kBi 50 49 3 .rem,kB 51 48 50 .lss,M 52 51,T 52 true (M 53 4),T 52 true (kBi 54 53 0 .geq),kPf 55 52 54,M 56 55,T 56 true (M 57 0),T 56 true (kU 58 57),T 56 true (D 59 58 5),T 56 true (L 60 59 1),T 56 true (kBi 61 60 0 .gtr),kPf 62 56 61] (Y 62 ks (K.exit 0))) (Z (K.block 1 (K.ops [M 65 12,M 66 0,D 67 6 4,L 68 67 1,kXi 69 68 5 0,J 70 69 5,M 71 2,M 72 4,kBi 73 72 1 .sub,kC 74 34 [(kt 66),(kt 70),(kt 71),(kt 73)],kd 75 37 15 1 kz1 [(0,15,(kt 74))],kP 76 37 15 168 65 75,M 12 76])) (K.ops [M 63 13,kBi 64 63 1 .add,M 13 64])))))) (Z (K.wk (K.ops [M 77 0,M 78 12,kC 79 80 [(kt 77),(kc 11),(kc 0),(kt 78)],kZ 14 kz1,S 14 79 15])) (G [D 80 6 4,L 81 80 1,kXi 82 81 5 0,J 83 82 5,D 84 14 8,S 84 83 5] (G [J 85 14 15,S 10 85 15] kr))))) ks)) (Z (K.wk (K.dops [(0,0,M 87 0),(1,0,kU 88 87),(2,1,D 89 88 0),(3,1,J 90 89 2),(4,1,D 91 6 1),(5,1,
 J 92 91 3),(6,7,kC 93 26 [(kt 90),(kt 92)]),(7,0,M 86 93),(8,0,kE 94 86 0),(9,0,kE 95 86 1),(10,304,⟨none,.alr (some 15) 4 kz0⟩),(11,0,S 15 94 31),(12,0,M 16 95)])) (Z (G [D 96 15 3,L 97 96 1,kQi 98 97 1 false] (Y 98 (G [M 99 3,D 100 15 8,L 101 100 1,kN 102 101,kB 103 99 102 .rem,M 17 103] (Z (G [M 104 4,kBi 105 104 0 .lss] (Y 105 (K.ops [kMi 17 0]) ks)) (G [M 106 0,D 107 15 8,L 108 107 1,M 109 17,kX 110 108 109 11,D 111 110 4,J 112 111 5,M 113 2,M 114 4,kBi 115 114 1 .sub,kC 116 34 [(kt 106),(kt 112),(kt 113),(kt 115)],kZ 18 kz1,S 18 116 15] (G [M 117 0,M 118 17,J 119 18 15,kd 120 37 15 1 kz1 [(0,15,(kt 119))],kC 121 80 [(kt 117),(kc 9),(kt 118),(kt 120)],kZ 19 kz1,S 19 121 15] (G [D 122 15 0,J 123 122 3,D 124 19 5,S 124 123 3] (G [J 125 19 15,S 10 125 15] kr)))))) ks)) (G [kMn 20] (Z (G [kMi 21 0] (K.block 2 (K.loop (Z (G [M 126 21,D 127 15 8,L 128 127 1,kN 129 128,kB 130 126 129 .lss] (Y 130 ks (K.exit 2))) (Z (K.block 3 (K.ops [M 133 20,M 134 0,D 135 15 8,L 136 135 1,M 137 21,kX 138 136 137 11,D 139 138 4,J 140 139 5,M 141 2,M 142 4,kBi 143 142 1 .sub,kC 144 34 [(kt 134),(kt 140),(kt 141),(kt 143)],kd 145 37 15 1 kz1 [(0,15,(kt 144))],kP 146 37 15 168 133 145,M 20 146])) (K.ops [M 131 21,kBi 132 131 1 .add,M 21 132])))))) (Z (K.wk (K.ops [M 147 0,M 148 20,kC 149 80 [(kt 147),(kc 7),(kc 0),(kt 148)],kZ 22 kz1,S 22 149 15])) (G [D 150 15 0,J 151 150 3,D 152 22 5,S 152 151 3] (G [J 153 22 15,S 10 153 15] kr))))))))))
def qO0:Nat→Option (List (Nat×Nat)):=fun r=>match r with | 17=>some [(0,0),(1,0),(2,1),(3,1),(4,1),(5,1),(6,7),(7,0),(8,0),(9,0),(10,304),(11,0),(12,0)] | _=>none
theorem zRL:qC Tryz.prog Tryz.f79.ntmps qO0 (Tryz.f79.body.getD .skip)=some zPi.erase:=by kernel_rfl
@[simp] theorem qNj:zA Tryz.prog 79=true:=by kernel_rfl
abbrev yU:FuncId:=34
@[simp] theorem qJG:zA Tryz.prog 34=true:=by kernel_rfl
def zA5 (hs:List Hd)(own:Int)(f:FuncId)(m:Mk)(args:List A)(env:List Bnd)(t:Typ)(c:Int):Prop :=
 ∃(e:Exp) (m':Mk),Ret Tryz.prog f args (mkS m) (.agg (zF e)) (mkS m')∧Adv m m' c∧WT hs own env e t∧Seg m.temp m'.temp (tmps e)∧e.num0
def zBd (hs:List Hd)(R:Nat)(c depth:Int)(Q:Nat→Prop)(len:Nat):Prop :=
 ∀(m:Mk) (r:Nat) (t:Typ) (env:List Bnd),Cx hs R m→Lim m c→TyOk hs r t→Q r→EnvOk hs R m.temp env→0<env.length→env.length≤len →
  zA5 hs m.own yU m [.ptr 0 0,.agg (zB t),.sl env.length (zQ env),int depth] env t c
theorem Adv.zero (m:Mk):Adv m m 0:=⟨rfl,rfl,rfl,rfl,rfl,by omega,by omega,by omega,by omega,by omega,by omega,by omega,by omega⟩
theorem zD5 (e:Exp):∀es:List Exp,jX (es++[e])=jX es++tmps e
 | []=>by simp[jX]
 | x::es=>by simp[jX,zD5 e es]
theorem zRg {hs:List Hd}{R:Nat}{c depth:Int}{Q:Nat→Prop}{len:Nat}(hk:zBd hs R c depth Q len)(hc:0≤c)(env:List Bnd)(h1:0<env.length)(h2:env.length≤len) :
 ∀(ts:List Typ) (m:Mk),Cx hs R m→Lim m (ts.length*c)→(∀t∈ts,∃r,TyOk hs r t∧Q r)→EnvOk hs R m.temp env →
  ∃(es:List Exp) (ms:Nat→Mk),es.length=ts.length∧ms 0=m∧(∀j≤ts.length,Adv m (ms j) (j*c))∧Seg m.temp (ms ts.length).temp (jX es) ∧
   ∀(j:Nat) (hj:j<es.length) (hj':j<ts.length),Ret Tryz.prog yU [.ptr 0 0,.agg (zB ts[j]),.sl env.length (zQ env),int depth] (mkS (ms j)) (.agg (zF es[j])) (mkS (ms (j+1)))∧WT hs m.own env es[j] ts[j]∧es[j].num0:=by
 intro ts;induction ts using zBy with
 | nil =>
  intro m hx hl ht he;refine⟨[],fun _=>m,rfl,rfl,fun j hj=>?_,Seg.nil,fun j hj=>by simp at hj⟩;have:j=0:=by simpa using hj
  subst this;exact(Adv.zero m).mono (by simp)
 | snoc ts t ih =>
  intro m hx hl ht he;have e1:((ts++[t]).length:Int)*c=ts.length*c+c:=by rw[List.length_append,List.length_singleton,Int.natCast_add,Int.add_mul]; simp
  rw[e1]at hl;have hz:0≤(ts.length:Int)*c:=Int.mul_nonneg (by omega) hc;obtain⟨es,ms,q1,q2,q3,q4,q5⟩:=ih m hx (hl.mono (by omega)) (fun t' ht'=>ht t' (by simp[ht'])) he;have a1:=q3 ts.length (Nat.le_refl _);obtain⟨r,hr,hQ⟩:=ht t (by simp);obtain⟨e,m',g1,g2,g3,g4,g5⟩:=hk (ms ts.length) r t env (hx.adv a1) (Lim.adv (c:=ts.length*c) (c':=c) hl a1) hr hQ (he.mono a1.temp1) h1 h2;refine⟨es++[e],fun j=>if j≤ts.length then ms j else m',by simp[q1],by simp[q2],fun j hj=>?_,?_,fun j hj hj'=>?_⟩
  ·by_cases hle:j≤ts.length
   ·simp only[hle,if_true]; exact q3 j hle
   ·have:j=ts.length+1:=by simp at hj; omega
    subst this;simp only[show ¬(ts.length+1≤ts.length) by omega,if_false];have:=a1.trans g2;rw[show (((ts.length+1:Nat):Int))*c=ts.length*c+c by rw[Int.natCast_add,Int.add_mul]; simp];exact this
  ·rw[zD5];simp only[List.length_append,List.length_singleton,show ¬(ts.length+1≤ts.length) by omega,if_false];exact q4.append g4 a1.temp1 g2.temp1
  ·simp only[List.length_append,List.length_singleton]at hj hj';by_cases hlt:j<ts.length
   ·have hjes:j<es.length:=by omega
    rw[List.getElem_append_left hjes,List.getElem_append_left hlt];simp only[show j≤ts.length by omega,if_true,show j+1≤ts.length by omega];exact q5 j hjes hlt
   ·have:j=ts.length:=by omega
    subst this;rw[List.getElem_append_right (by omega),List.getElem_append_right (by omega)];simp only[Nat.le_refl,if_true,show ¬(ts.length+1≤ts.length) by omega,if_false,Nat.sub_self,q1,List.getElem_cons_zero];rw[a1.own]at g3;exact⟨g1,g3,g5⟩
theorem zVo {hs:List Hd}{R:Nat}{c depth:Int}{Q:Nat→Prop}{len:Nat}(hk:zBd hs R c depth Q len)(hc:0≤c)(env:List Bnd)(h1:0<env.length)(h2:env.length≤len)(t:Typ){r:Nat}(hr:TyOk hs r t)(hQ:Q r)
 (m:Mk)(hx:Cx hs R m)(he:EnvOk hs R m.temp env):∀(k:Nat),Lim m (k*c) →
  ∃(es:List Exp) (ms:Nat→Mk),es.length≤k∧ms 0=m∧(∀j≤es.length,Adv m (ms j) (j*c))∧Seg m.temp (ms es.length).temp (jX es)∧(∀j<es.length,0<(ms j).left)∧(es.length=k∨(ms es.length).left≤0) ∧
   ∀(j:Nat) (hj:j<es.length),Ret Tryz.prog yU [.ptr 0 0,.agg (zB t),.sl env.length (zQ env),int depth] (mkS (ms j)) (.agg (zF es[j])) (mkS (ms (j+1)))∧WT hs m.own env es[j] t∧es[j].num0:=by
 intro k;induction k with
 | zero =>
  intro hl;refine⟨[],fun _=>m,Nat.le_refl _,rfl,fun j hj=>?_,Seg.nil,fun j hj=>by simp at hj,.inl rfl,fun j hj=>by simp at hj⟩;have:j=0:=by simpa using hj
  subst this;exact(Adv.zero m).mono (by simp)
 | succ k ih =>
  intro hl;have e1:(((k+1:Nat):Int))*c=k*c+c:=by rw[Int.natCast_add,Int.add_mul]; simp
  rw[e1]at hl;obtain⟨es,ms,q0,q2,q3,q4,q6,q7,q5⟩:=ih (hl.mono (by omega));by_cases hdone:es.length=k∧0<(ms es.length).left
  ·obtain⟨hek,hleft⟩:=hdone;have a1:=q3 es.length (Nat.le_refl _);rw[hek]at a1;obtain⟨e,m',g1,g2,g3,g4,g5⟩:=hk (ms k) r t env (hx.adv a1) (Lim.adv (c:=k*c) (c':=c) hl a1) hr hQ (he.mono a1.temp1) h1 h2;refine⟨es++[e],fun j=>if j≤k then ms j else m',by simp[hek],by simp[q2],fun j hj=>?_,?_,fun j hj=>?_,.inl (by simp[hek]),fun j hj=>?_⟩
   ·simp only[List.length_append,List.length_singleton,hek]at hj;by_cases hle:j≤k
    ·simp only[hle,if_true]; exact q3 j (by omega)
    ·have:j=k+1:=by omega
     subst this;simp only[show ¬(k+1≤k) by omega,if_false];rw[e1];exact a1.trans g2
   ·rw[zD5];rw[hek]at q4;simp only[List.length_append,List.length_singleton,hek,show ¬(k+1≤k) by omega,if_false];exact q4.append g4 a1.temp1 g2.temp1
   ·simp only[List.length_append,List.length_singleton,hek]at hj;simp only[show j≤k by omega,if_true];by_cases e:j=k
    ·subst e; rw[hek]at hleft; exact hleft
    ·exact q6 j (by omega)
   ·simp only[List.length_append,List.length_singleton,hek]at hj;by_cases hlt:j<k
    ·have hjes:j<es.length:=by omega
     rw[List.getElem_append_left hjes];simp only[show j≤k by omega,if_true,show j+1≤k by omega];exact q5 j hjes
    ·have:j=k:=by omega
     subst this;rw[List.getElem_append_right (by omega)];simp only[Nat.le_refl,if_true,show ¬(j+1≤j) by omega,if_false,Nat.sub_self,hek,List.getElem_cons_zero];rw[a1.own]at g3;exact⟨g1,g3,g5⟩
  ·refine⟨es,ms,by omega,q2,q3,q4,q6,.inr ?_,q5⟩;rcases q7 with q7 | q7
   ·by_cases h:0<(ms es.length).left
    ·exact(hdone ⟨q7,h⟩).elim
    ·omega
   ·exact q7
end Go.Proofs.YthglhccibdlccaaGreatDoor
