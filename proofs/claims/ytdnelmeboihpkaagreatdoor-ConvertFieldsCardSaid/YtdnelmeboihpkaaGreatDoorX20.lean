/-
  Weights of values; the orders are linear; slices.SortFunc at values.
  slices.Repeat for one element and up to two copies, by the kit's own walk, and as a contract over abstract states.
  The second generator's programs, walked: a converter's body.
  The reference's maker of paths.
-/
import Derived.Test.YtdnelmeboihpkaaGreatDoorX19
import Derived.Test.YtdnelmeboihpkaaGreatDoorX17
import Derived.Test.YtdnelmeboihpkaaGreatDoorX12
import Derived.Tactics2
import Derived.Handy
import Derived.Deep.Draws
import Derived.Laws.MakeOwn
import Derived.Deep.RegionLaw
import Derived.Laws.CopyRow
import Derived.Laws.IdiomCopy
import Derived.Laws.Rows
set_option linter.unusedVariables false
set_option maxHeartbeats 8000000
set_option maxRecDepth 100000
set_option linter.unusedSimpArgs false
open Go.Proofs.Tryz (prog)
namespace Go.Proofs.YtdnelmeboihpkaaGreatDoor
open Go.Abs
def qHr:K:=G [kO 1 0,kMi 2 0] (G [D 4 1 1,L 5 4 1,D 6 1 1,L 7 6 1,D 8 1 1,L 9 8 1,D 10 1 2,L 11 10 1,kN 12 11,kb 13 [ki,ki,ki,ki,ki] [(0,1,(kt 5)),(1,1,(kt 7)),(2,1,(kc 0)),(3,1,(kt 9)),(4,1,(kt 12))],kZ 3 [ki,ki,ki,ki,ki],S 3 13 5] (Z (G [D 14 1 0,L 15 14 1,kQi 16 15 0 false,M 17 16,T 17 true (D 18 1 1),T 17 true (L 19 18 1),T 17 true (kBi 20 19 0 .lss),kPf 21 17 20] (Y 21 (G [D 22 1 1,L 23 22 1,⟨none,.neg (some 24) (kt 23)⟩,M 2 24] kr) ks)) (G [D 25 1 0,L 26 25 1,⟨none,.idxarr (some 27) (kt 3) (kt 26) 5 1⟩,L 28 27 1,M 2 28] kr)))
theorem qO2:zQ prog Tryz.f123.ntmps (Tryz.f123.body.getD .skip)=some qHr.erase:=by kernel_rfl
@[simp] theorem qPM:zB prog 123=true:=by kernel_rfl
def qHs:K:=G [kO 1 0,kMi 2 0] (Z (G [D 6 1 0,L 7 6 1,kBi 8 7 0 .lss,M 9 8,T 9 false (D 10 1 0),T 9 false (L 11 10 1),T 9 false (kBi 12 11 4 .gtr),kPt 13 9 12] (Y 13 (G [kMi 2 0] kr) ks)) (G [J 14 1 3,kC 15 123 [(kt 14)],M 3 15] (Z (G [D 16 1 0,L 17 16 1,kQi 18 17 0 false,M 19 18,T 19 false (D 20 1 0),T 19 false (L 21 20 1),T 19 false (kQi 22 21 1 false),kPt 23 19 22] (Y 23 (G [M 24 3,M 2 24] kr) ks)) (Z (G [D 25 1 2,L 26 25 1,kN 27 26,kMi 28 0] (K.block 0 (K.loop (G [kB 29 28 27 .lss] (Z (Y 29 ks (K.exit 0)) (Z (K.block 1 (G [kX 30 26 28 3,J 31 30 3,kZ 5 [ki,ki,kl],S 5 31 3] (K.ops [M 32 3,J 33 5 3,kC 34 81 [(kt 33)],kB 35 32 34 .add,M 3 35]))) (K.ops [kBi 36 28 1 .add,M 28 36]))))))) (G [M 37 3,M 2 37] kr)))))
theorem qO3:zQ prog Tryz.f81.ntmps (Tryz.f81.body.getD .skip)=some qHs.erase:=by kernel_rfl
@[simp] theorem qPN:zB prog 81=true:=by kernel_rfl
def qA0:K:=G [kO 2 0,kO 3 1,kMi 4 0] (Z (K.dops [(0,0,J 5 2 3),(1,0,kC 6 81 [(kt 5)]),(2,0,J 7 3 3),(3,0,kC 8 81 [(kt 7)]),(4,0,kC 9 80 [(kt 6),(kt 8)]),(5,0,J 10 2 3),(6,0,J 11 3 3),(7,0,kC 12 60 [(kt 10),(kt 11)]),(8,0,kd 13 3 1 2 [ki,ki] [(0,1,(kt 9)),(1,1,(kt 12))]),(9,0,kC 14 79 [(kt 13)]),(10,0,M 4 14)]) kr)
theorem qIp:zQ prog Tryz.f78.ntmps (Tryz.f78.body.getD .skip)=some qA0.erase:=by kernel_rfl
@[simp] theorem qMb:zB prog 78=true:=by kernel_rfl
def zOp (v:Val):Int:=if v.k=0∧v.n<0 then w64 (0-v.n) else if v.k=0∨v.k=1∨v.k=3 then v.n else if v.k=4 then v.kids.length else 0
theorem zSv (v:Val)(h0:0≤v.k)(h4:v.k≤4):Ret prog 123 [.agg (zC v)] [] (int (zOp v)) []:=by
 refine zH Tryz.func123 rfl qO2 (rs:=[.slot 2]) (by kernel_rfl) ?_;unfold qHr;by_cases hk:v.k=0
 ·by_cases hn:v.n<0
  ·simp -implicitDefEqProofs [zC,hk,hn];exact fun _=>zA 0 (by simp[zOp,hk,hn,w64])
  ·simp -implicitDefEqProofs [zC,hk,hn];exact fun _=>zA 0 (by simp[zOp,hk,hn])
 ·simp -implicitDefEqProofs [zC,hk];intro hl;have hc:v.k=1∨v.k=2∨v.k=3∨v.k=4:=by omega
  rcases hc with h | h | h | h<;>simp -implicitDefEqProofs [h]<;>exact zA 0 (by simp[zOp,h])
def zBR:Val→Int
 | .mk k n l=>if k<0∨4<k then 0 else if k=0∨k=1 then zOp (.mk k n l) else l.attach.foldl (fun s x=>w64 (s+zBR x.1)) (zOp (.mk k n l))
termination_by v=>zW v
decreasing_by
 have:=zEM x.2;simp only[zW]; omega
def zSo (s:Int)(l:List Val):Int:=l.foldl (fun s x=>w64 (s+zBR x)) s
theorem zDQ (v:Val):zBR v=if v.k<0∨4<v.k then 0 else if v.k=0∨v.k=1 then zOp v else zSo (zOp v) v.kids:=by
 cases v with
 | mk k n l =>
  rw[zBR];simp only[Val.k,Val.kids,zSo]
  congr 2
  rw[List.foldl_attach (f:=fun s x=>w64 (s+zBR x))]
theorem zUZ {s:Int}{l:List Val}{i:Nat}(h:i<l.length):zSo s (l.take (i+1))=IntKind.i64.wrap (zSo s (l.take i)+zBR l[i]):=by rw[zSo,jA9 h,jC9];rfl
theorem zJw (v:Val):Ret prog 81 [.agg (zC v)] [] (int (zBR v)) []:=by
 refine zH Tryz.func81 rfl qO3 (rs:=[.slot 2]) (by kernel_rfl) ?_;unfold qHs;by_cases hk:v.k<0
 ·simp -implicitDefEqProofs [zC,hk];exact zA 0 (by simp[zDQ v,hk])
 by_cases hk':4<v.k
 ·simp -implicitDefEqProofs [zC,hk,hk'];exact zA 0 (by simp[zDQ v,hk'])
 simp -implicitDefEqProofs [zC,hk,hk'];refine qE (zSv v (by omega) (by omega)) (by simp[zC]) (by simp) ?_;by_cases h0:v.k=0
 ·simp -implicitDefEqProofs [h0];exact zA 0 (by simp[zDQ v,h0])
 by_cases h1:v.k=1
 ·simp -implicitDefEqProofs [h1];exact zA 0 (by simp[zDQ v,h1])
 simp -implicitDefEqProofs [h0,h1];intro hl;refine jR (S:=Nat) (fun i=>[(3,int (zSo (zOp v) (v.kids.take i))),(26,.sl v.kids.length (zJ v.kids)),(27,int v.kids.length),(28,int i)]) (fun s=>[]) (fun i=>i≤v.kids.length) (fun i=>v.kids.length-i) 0 (by simp)
  (zP [] 0 (by simp) (by simp) (by simp) (by simp[zSo])) ?_
 intro i hi;simp -implicitDefEqProofs;refine qZ (fun h=>?_) (fun h=>?_)<;>simp at h
 ·simp -implicitDefEqProofs [h,qY h];refine qE (zJw v.kids[i]) (by simp[zC]) (by simp) ?_;simp -implicitDefEqProofs;refine zO (i+1) h (by omega) (zP [] 0 (by simp) (by simp) (by simp) (by simp[qC h hl,zUZ h]))
 ·have:i=v.kids.length:=by omega
  subst this;simp -implicitDefEqProofs;exact zA 0 (by simp[zDQ v,hk,hk',h0,h1])
termination_by zW v
decreasing_by exact zAB (jA3 _)
structure Lin {α : Type}(c : α→α→Int):Prop where
 refl:∀x,c x x=0
 eq:∀x y,c x y=0→x=y
 swap:∀x y,c x y<0↔0<c y x
 trans:∀x y z,c x y<0→c y z<0→c x z<0
theorem Lin.ord {α : Type}{c : α→α→Int}(h:Lin c):Ord c where
 irrefl x:=by rw[h.refl]; omega
 trans:=h.trans
 ntrans x y z h1 h2 h3:=by
  by_cases e1:c x y=0
  ·rw[h.eq _ _ e1]at h3; exact h2 h3
  by_cases e2:c y z=0
  ·rw[←h.eq _ _ e2]at h3; exact h1 h3
  have h4:c y x<0:=(h.swap y x).2 (by omega);have h5:=h.trans _ _ _ h4 h3;exact h2 h5
 anti x y h1 h2:=by
  by_cases e1:c x y=0
  ·exact h.eq _ _ e1
  ·have:c y x<0:=(h.swap y x).2 (by omega);exact(h2 this).elim
theorem zDa {a b:Int}:zA5 a b<0↔a<b:=by
 unfold zA5;split
 ·omega
 ·split<;>omega
theorem zFU {a b:Int}:0<zA5 a b↔b<a:=by
 unfold zA5;split
 ·omega
 ·split<;>omega
theorem yM {a b:Int}:zA5 a b=0↔a=b:=by
 unfold zA5;split
 ·omega
 ·split<;>omega
theorem qJJ:Lin zA5 where
 refl x:=yM.2 rfl
 eq x y h:=yM.1 h
 swap x y:=by rw[zDa,zFU]
 trans x y z:=by simp only[zDa]; omega
theorem zOo (a:Int):orI [a]=a:=by simp only[orI]; split<;>simp_all
theorem zL6 (a:Int)(l:List Int):orI (a::l)=if a=0 then orI l else a:=rfl
theorem zXc {α : Type}{c d : α→α→Int}(hc0:∀x,c x x=0)(hcs:∀x y,c x y<0↔0<c y x)(hct:∀x y z,c x y<0→c y z<0→c x z<0)
 (hce:∀x y z,c x y=0→c x z=c y z∧c z x=c z y)(hd0:∀x,d x x=0)(hde:∀x y,c x y=0→d x y=0→x=y)(hds:∀x y,c x y=0→(d x y<0↔0<d y x))
 (hdt:∀x y z,c x y=0→c y z=0→d x y<0→d y z<0→d x z<0):Lin fun x y=>if c x y=0 then d x y else c x y where
 refl x:=by simp[hc0,hd0]
 eq x y h:=by
  split at h
  ·rename_i hc; exact hde x y hc h
  ·rename_i hc; exact(hc h).elim
 swap x y:=by
  by_cases h:c x y=0
  ·have h':c y x=0:=by have:=(hce x y x h).1;rw[hc0]at this;exact this.symm
   simp only[h,h',if_true];exact hds x y h
  ·have h':¬c y x=0:=fun e=>h (by
    have:=(hce y x y e).1;rw[hc0]at this;exact this.symm)
   simp only[h,h',if_false];exact hcs x y
 trans x y z:=by
  by_cases h1:c x y=0
  ·by_cases h2:c y z=0
   ·have h3:c x z=0:=by rw[(hce x y z h1).1]; exact h2
    simp only[h1,h2,h3,if_true];exact hdt x y z h1 h2
   ·have h3:¬c x z=0:=by rw[(hce x y z h1).1]; exact h2
    simp only[h1,h2,h3,if_true,if_false];intro _ h;rw[(hce x y z h1).1]; exact h
  ·by_cases h2:c y z=0
   ·have h3:¬c x z=0:=by rw[←(hce y z x h2).2]; exact h1
    simp only[h1,h2,h3,if_true,if_false];intro h _;rw[←(hce y z x h2).2]; exact h
   ·simp only[h1,h2,if_false];intro h4 h5;have h6:=hct x y z h4 h5;have h3:¬c x z=0:=by omega
    simp only[h3,if_false];exact h6
mutual
theorem zD3:∀(a:Val),zCu a a=0
 | .mk k n l=>by
  rw[zBN];have:zBp (.mk k n l) (.mk k n l)=0:=by simp[zBp,orI,yM.2]
  simp only[this,ne_eq,not_true_eq_false,if_false,Val.kids];exact zKE l
theorem zKE:∀(l:List Val),zA1 l l=0
 | []=>by simp only[zA1]
 | a::l=>by simp only[zA1,zD3 a,ne_eq,not_true_eq_false,if_false]; exact zKE l
end
theorem zD9 {a b:Val}:zBp a b=0↔a.k=b.k∧a.n=b.n∧a.kids.length=b.kids.length:=by
 simp only[zBp,orI];by_cases h1:a.k=b.k
 ·by_cases h2:a.n=b.n
  ·by_cases h3:a.kids.length=b.kids.length
   ·simp[h1,h2,h3,yM.2]
   ·have:¬zA5 a.kids.length b.kids.length=0:=fun e=>h3 (by have:=yM.1 e; omega)
    simp[h1,h2,h3,yM.2,this]
  ·have:¬zA5 a.n b.n=0:=fun e=>h2 (yM.1 e)
   simp[h1,h2,yM.2,this]
 ·have:¬zA5 a.k b.k=0:=fun e=>h1 (yM.1 e)
  simp[h1,this]
mutual
theorem zD4:∀(a b:Val),zCu a b=0→a=b
 | .mk k n l,.mk k' n' l',h=>by
  rw[zBN]at h;split at h
  ·rename_i h1; exact(h1 h).elim
  ·rename_i h1;simp only[ne_eq,Decidable.not_not]at h1;obtain⟨e1,e2,e3⟩:=zD9.1 h1;simp only[Val.k,Val.n,Val.kids]at e1 e2 e3 h;rw[e1,e2,zKG l l' h]
theorem zKG:∀(l l':List Val),zA1 l l'=0→l=l'
 | [],[],_=>rfl
 | [],_::_,h=>by simp[zA1]at h
 | _::_,[],h=>by simp[zA1]at h
 | a::l,b::l',h=>by
  simp only[zA1]at h;split at h
  ·rename_i h1; exact(h1 h).elim
  ·rename_i h1;simp only[ne_eq,Decidable.not_not]at h1;rw[zD4 a b h1,zKG l l' h]
end
theorem zIg {a b:Val}:zBp a b<0↔a.k<b.k∨(a.k=b.k∧(a.n<b.n∨(a.n=b.n∧a.kids.length<b.kids.length))):=by
 simp only[zBp,zL6,zOo];by_cases h1:a.k=b.k
 ·by_cases h2:a.n=b.n
  ·simp[h1,h2,yM.2,zDa];simp only[orI];split<;>rename_i h<;>simp_all [zDa];have:=yM.1 h; omega
  ·have:¬zA5 a.n b.n=0:=fun e=>h2 (yM.1 e)
   simp[h1,h2,yM.2,this,zDa]
 ·have:¬zA5 a.k b.k=0:=fun e=>h1 (yM.1 e)
  simp[h1,this,zDa]
theorem zWP {a b:Val}:0<zBp a b↔zBp b a<0:=by
 rw[zIg];simp only[zBp,zL6,zOo];by_cases h1:a.k=b.k
 ·by_cases h2:a.n=b.n
  ·simp[h1,h2,yM.2];simp only[orI];split<;>rename_i h<;>simp_all [zFU];have:=yM.1 h; omega
  ·have:¬zA5 a.n b.n=0:=fun e=>h2 (yM.1 e)
   simp[h1,yM.2,this,zFU];omega
 ·have:¬zA5 a.k b.k=0:=fun e=>h1 (yM.1 e)
  simp[this,zFU];omega
mutual
theorem zM2:∀(a b:Val),zCu a b<0↔0<zCu b a
 | .mk k n l,.mk k' n' l'=>by
  rw[zBN,zBN];by_cases h:zBp (.mk k n l) (.mk k' n' l')=0
  ·have h':zBp (.mk k' n' l') (.mk k n l)=0:=by rw[zD9]at *; omega
   simp only[h,h',ne_eq,not_true_eq_false,if_false,Val.kids];exact zKF l l'
  ·have h':¬zBp (.mk k' n' l') (.mk k n l)=0:=by rw[zD9]at *; omega
   simp only[h,h',ne_eq,not_false_eq_true,if_true];rw[zWP]
theorem zKF:∀(l l':List Val),zA1 l l'<0↔0<zA1 l' l
 | [],[]=>by simp[zA1]
 | [],_::_=>by simp[zA1]
 | _::_,[]=>by simp[zA1]
 | a::l,b::l'=>by
  simp only[zA1];by_cases h:zCu a b=0
  ·have e:=zD4 a b h;subst e;simp only[h,ne_eq,not_true_eq_false,if_false];exact zKF l l'
  ·have h':¬zCu b a=0:=fun e=>h (by rw[zD4 b a e]; exact zD3 a)
   simp only[h,h',ne_eq,not_false_eq_true,if_true];exact zM2 a b
end
mutual
theorem zKD:∀(a b c:Val),zCu a b<0→zCu b c<0→zCu a c<0
 | .mk k n l,.mk k' n' l',.mk k'' n'' l'',h1,h2=>by
  rw[zBN]at *
  by_cases e1:zBp (.mk k n l) (.mk k' n' l')=0
  ·by_cases e2:zBp (.mk k' n' l') (.mk k'' n'' l'')=0
   ·have e3:zBp (.mk k n l) (.mk k'' n'' l'')=0:=by rw[zD9]at *; omega
    simp only[e1,e2,e3,ne_eq,not_true_eq_false,if_false,Val.kids]at *
    exact zJ6 l l' l'' h1 h2
   ·have e3:zBp (.mk k n l) (.mk k'' n'' l'')<0:=by simp only[e2,ne_eq,not_false_eq_true,if_true]at h2;rw[zD9]at e1; rw[zIg]at *; omega
    have e4:zBp (.mk k n l) (.mk k'' n'' l'')≠0:=by omega
    simp only[e4,ne_eq,not_false_eq_true,if_true];exact e3
  ·simp only[e1,ne_eq,not_false_eq_true,if_true]at h1;have e3:zBp (.mk k n l) (.mk k'' n'' l'')<0:=by
    by_cases e2:zBp (.mk k' n' l') (.mk k'' n'' l'')=0
    ·rw[zD9]at e2; rw[zIg]at *; omega
    ·simp only[e2,ne_eq,not_false_eq_true,if_true]at h2;rw[zIg]at *; omega
   have e4:zBp (.mk k n l) (.mk k'' n'' l'')≠0:=by omega
   simp only[e4,ne_eq,not_false_eq_true,if_true];exact e3
theorem zJ6:∀(a b c:List Val),zA1 a b<0→zA1 b c<0→zA1 a c<0
 | [],[],_,h1,_=>by simp[zA1]at h1
 | [],_::_,[],_,h2=>by simp[zA1]at h2
 | [],_::_,_::_,_,_=>by simp[zA1]
 | _::_,[],_,h1,_=>by simp[zA1]at h1
 | _::_,_::_,[],_,h2=>by simp[zA1]at h2
 | a::l,b::l',c::l'',h1,h2=>by
  simp only[zA1]at *
  by_cases e1:zCu a b=0
  ·have e:=zD4 a b e1;subst e;by_cases e2:zCu a c=0
   ·simp only[zD3,e2,ne_eq,not_true_eq_false,if_false]at *
    exact zJ6 l l' l'' h1 h2
   ·simp only[e2,ne_eq,not_false_eq_true,if_true]at *
    exact h2
  ·simp only[e1,ne_eq,not_false_eq_true,if_true]at h1;have e3:zCu a c<0:=by
    by_cases e2:zCu b c=0
    ·rw[←zD4 b c e2]; exact h1
    ·simp only[e2,ne_eq,not_false_eq_true,if_true]at h2;exact zKD a b c h1 h2
   have e4:zCu a c≠0:=by omega
   simp only[e4,ne_eq,not_false_eq_true,if_true];exact e3
end
theorem zXb:Lin zCu:=⟨zD3,zD4,zM2,zKD⟩
theorem qDq {α : Type}(f : α→Int){d : α→α→Int}(h:Lin d):Lin fun x y=>orI [zA5 (f x) (f y),d x y]:=by
 have:=zXc (c:=fun x y=>zA5 (f x) (f y)) (d:=d) (fun x=>yM.2 rfl) (fun x y=>by rw[zDa,zFU]) (fun x y z=>by simp only[zDa]; omega)
  (fun x y z e=>by have:=yM.1 e; simp[this]) h.refl (fun x y _=>h.eq x y) (fun x y _=>h.swap x y) (fun x y z _ _=>h.trans x y z)
 have e:(fun x y=>orI [zA5 (f x) (f y),d x y])=fun x y=>if zA5 (f x) (f y)=0 then d x y else zA5 (f x) (f y):=by funext x y;rw[zL6,zOo]
 rw[e];exact this
def zRg (a b:Val):Int:=orI [zA5 (zBR a) (zBR b),zCu a b]
theorem zLq:Lin zRg:=qDq zBR zXb
theorem zO5 (a b:Val):Ret prog 78 [.agg (zC a),.agg (zC b)] [] (int (zRg a b)) []:=by refine zH Tryz.func78 rfl qIp (rs:=[.slot 4]) (by kernel_rfl) ?_;unfold qA0;simp -implicitDefEqProofs [zC];refine qU (zJw a) (by simp[zC]) (by simp) ?_;simp -implicitDefEqProofs;refine qU (zJw b) (by simp[zC]) (by simp) ?_;simp -implicitDefEqProofs;refine qU (zCp (zBR a) (zBR b)) (by simp) (by simp) ?_;simp -implicitDefEqProofs;refine qU (zKp a b) (by simp[zC]) (by simp) ?_;simp -implicitDefEqProofs;refine qU (zXu [zA5 (zBR a) (zBR b),zCu a b]) (by simp) (by simp) ?_;simp -implicitDefEqProofs;exact zA 0 (by simp[zRg])
def qK6:Go.Shelf.Ren:=⟨fun | 6=>77 | 15=>121 | 14=>120 | 28=>165 | 29=>166 | 20=>157 | 21=>158 | 22=>159 | 23=>160 | 24=>161 | 25=>162 | 26=>163 | 27=>164 | 46=>181 | 49=>184 | 50=>185 | 57=>197 | 47=>182 | 48=>183 | n=>n,fun | 22=>44 | 24=>46 | 25=>54 | 3=>3 | 39=>181 | 0=>0 | 53=>222 | 55=>224 | 4=>4 | 46=>215 | 45=>214 | 50=>219 | 5=>5 | 9=>9 | 66=>241 | 70=>245 | 76=>256 | 77=>257 | n=>n,fun n=>n⟩
theorem qBm:Go.Proofs.SlLaysF0.n6 prog qK6:={
 mixed:=by kernel_rfl,
 f6:=⟨Tryz.f77.name,by decide,Tryz.func77.trans (congrArg some (by kernel_rfl))⟩,
 f14:=⟨Tryz.f120.name,by decide,Tryz.func120.trans (congrArg some (by kernel_rfl))⟩,
 f15:=Tryz.func121.trans (congrArg some (by kernel_rfl)),
 f20:=⟨Tryz.f157.name,by decide,Tryz.func157.trans (congrArg some (by kernel_rfl))⟩,
 f21:=⟨Tryz.f158.name,by decide,Tryz.func158.trans (congrArg some (by kernel_rfl))⟩,
 f22:=⟨Tryz.f159.name,by decide,Tryz.func159.trans (congrArg some (by kernel_rfl))⟩,
 f23:=⟨Tryz.f160.name,by decide,Tryz.func160.trans (congrArg some (by kernel_rfl))⟩,
 f24:=⟨Tryz.f161.name,by decide,Tryz.func161.trans (congrArg some (by kernel_rfl))⟩,
 f25:=⟨Tryz.f162.name,by decide,Tryz.func162.trans (congrArg some (by kernel_rfl))⟩,
 f26:=⟨Tryz.f163.name,by decide,Tryz.func163.trans (congrArg some (by kernel_rfl))⟩,
 f27:=⟨Tryz.f164.name,by decide,Tryz.func164.trans (congrArg some (by kernel_rfl))⟩,
 f28:=Tryz.func165.trans (congrArg some (by kernel_rfl)),
 f29:=Tryz.func166.trans (congrArg some (by kernel_rfl)),
 f46:=⟨Tryz.f181.name,by decide,Tryz.func181.trans (congrArg some (by kernel_rfl))⟩,
 f47:=Tryz.func182.trans (congrArg some (by kernel_rfl)),
 f48:=Tryz.func183.trans (congrArg some (by kernel_rfl)),
 f49:=⟨Tryz.f184.name,by decide,Tryz.func184.trans (congrArg some (by kernel_rfl))⟩,
 f50:=⟨Tryz.f185.name,by decide,Tryz.func185.trans (congrArg some (by kernel_rfl))⟩,
 f57:=⟨Tryz.f197.name,by decide,Tryz.func197.trans (congrArg some (by kernel_rfl))⟩,
 t0:=Tryz.underlying0,
 a0:=Tryz.isAgg0,
 z0:=Tryz.sizeOf0,
 v0:=Tryz.zeroValue0,
 t3:=Tryz.underlying3,
 a3:=Tryz.isAgg3,
 z3:=Tryz.sizeOf3,
 v3:=Tryz.zeroValue3,
 t4:=Tryz.underlying4,
 a4:=Tryz.isAgg4,
 z4:=Tryz.sizeOf4,
 v4:=Tryz.zeroValue4,
 t5:=Tryz.underlying5,
 a5:=Tryz.isAgg5,
 z5:=Tryz.sizeOf5,
 v5:=Tryz.zeroValue5,
 t9:=Tryz.underlying9,
 a9:=Tryz.isAgg9,
 z9:=Tryz.sizeOf9,
 v9:=Tryz.zeroValue9,
 t22:=Tryz.underlying44,
 a22:=Tryz.isAgg44,
 z22:=Tryz.sizeOf44,
 v22:=Tryz.zeroValue44,
 t25:=Tryz.underlying54,
 a25:=Tryz.isAgg54,
 z25:=Tryz.sizeOf54,
 v25:=Tryz.zeroValue54,
 t39:=Tryz.underlying181,
 a39:=Tryz.isAgg181,
 z39:=Tryz.sizeOf181,
 v39:=Tryz.zeroValue181,
 t45:=Tryz.underlying214,
 a45:=Tryz.isAgg214,
 z45:=Tryz.sizeOf214,
 v45:=Tryz.zeroValue214,
 t46:=Tryz.underlying215,
 a46:=Tryz.isAgg215,
 z46:=Tryz.sizeOf215,
 v46:=Tryz.zeroValue215,
 t50:=Tryz.underlying219,
 a50:=Tryz.isAgg219,
 z50:=Tryz.sizeOf219,
 v50:=Tryz.zeroValue219,
 t53:=Tryz.underlying222,
 a53:=Tryz.isAgg222,
 z53:=Tryz.sizeOf222,
 v53:=Tryz.zeroValue222,
 t55:=Tryz.underlying224,
 a55:=Tryz.isAgg224,
 z55:=Tryz.sizeOf224,
 v55:=Tryz.zeroValue224,
 t66:=Tryz.underlying241,
 a66:=Tryz.isAgg241,
 z66:=Tryz.sizeOf241,
 v66:=Tryz.zeroValue241,
 t70:=Tryz.underlying245,
 a70:=Tryz.isAgg245,
 z70:=Tryz.sizeOf245,
 v70:=Tryz.zeroValue245,
 t76:=Tryz.underlying256,
 a76:=Tryz.isAgg256,
 z76:=Tryz.sizeOf256,
 v76:=Tryz.zeroValue256,
 t77:=Tryz.underlying257,
 a77:=Tryz.isAgg257,
 z77:=Tryz.sizeOf257,
 v77:=Tryz.zeroValue257}
@[simp] theorem qI7:zB prog 77=true:=by kernel_rfl
theorem zYE:∀args w,(callFunc 78 args).run prog w=.ok (.enter 78 args) w:=enters_of Tryz.func78 (by kernel_rfl) rfl
theorem qEb:zN9 prog 77 78 zC zRg :=
 zXL (k:=3) (fun _=>rfl) zLq.ord zO5 fun α _ enc hk h1 cf hO blk off cap d w hcmp hH hblk hsz =>
  Go.Proofs.AnyQ.slices_SortFunc qBm 3 Tryz.isAgg46 Tryz.sizeOf46 enc hk h1 cf hO 78 #[] blk off cap d w zYE hcmp hH hblk hsz
theorem qKd:∀(p:Option Addr) (cap:Nat) (fv:Value) (w:World),Calls prog 77 #[.slice p 0 cap,fv] w fun e w'=>e=.returned (.tuple #[])∧w'=w :=
 fun p cap fv w=>Go.Proofs.AnyF.slices_SortFunc_none qBm p cap fv w
theorem zRf (l:List Val):l.flatMap zC=zJ l:=by
 induction l with
 | nil=>simp
 | cons v l ih=>simp[ih,zC]
theorem zQ7 (l:List Val)(hmx:l.length<4611686018427387904):Ret prog 77 [.row 0 l.length,.clo 78 [] []] [.row false 46 3 l.length (zJ l)] (.tup []) [.row false 46 3 l.length (zJ (zEm zRg l))]:=by
 have:=zQ8 (sz:=3) (by omega) (fun _=>rfl) (fun b=>by simp[zC]) zLq.ord 46 qEb qKd l hmx
 simpa only[zRf] using this
end Go.Proofs.YtdnelmeboihpkaaGreatDoor
namespace Go.Proofs.YtdnelmeboihpkaaGreatDoor
open Go.Proofs Go.Abs
theorem zXm (c:Int)(hc:c=0∨c=1∨c=2)(w:World):Calls prog 180 #[.int .u64 1,.int .u64 c] w fun e w'=>e=.returned (.tuple #[.int .u64 0,.int .u64 c])∧w'=w:=by
 rcases hc with rfl | rfl | rfl
 all_goals
  go_enter Tryz.func180,Tryz.ntmps180
  go_wp2
  go_ret2
  exact⟨by kernel_rfl,rfl⟩
theorem zRR (c:Int)(hc:c=0∨c=1∨c=2)(w:World):Calls prog 156 #[.int .u64 1,.int .u64 c] w fun e w'=>e=.returned (.tuple #[.int .u64 0,.int .u64 c])∧w'=w:=by
 have h:=zXm c hc;have hw:IntKind.u64.wrap c=c:=by rcases hc with rfl | rfl | rfl<;>rfl
 go_enter Tryz.func156,Tryz.ntmps156
 go_wp2_with (go_at_call 180; refine(h _).mono ?_; rintro e w' ⟨rfl,rfl⟩)
 go_ret2
 exact⟨rfl,rfl⟩
theorem u49:prog.underlying 161=some (.slice 44):=by kernel_rfl
theorem zZK:(prog.info? 44).map (·.size)=some 1:=by kernel_rfl
theorem i36:(prog.info? 44).map (fun i=>(i.size,i.bytes,i.zero))=some (1,24,some (.slice none 0 0)):=by kernel_rfl
theorem zRP (c:Nat)(hc:c≤2)(w:World):(Instr.makeSlice 161 (.int .i64 c) (.int .i64 c)).run prog w=.ok (.slice (some ⟨w.heap.size,0,none⟩) c c) (w.alloc (.cells (madeCells #[.slice none 0 0] c) 44)):=by obtain⟨i,hi,hh⟩:=jAa.1 i36;simp only[jBa]at hh;obtain⟨h1,h2,h3⟩:=hh;have:=run_make w 161 44 i (.slice none 0 0) u49 hi h3 .i64 .i64 c c (by omega) (by omega) (by rw[h2]; omega) (by omega);rw[this,h1];simp[Value.cells]
theorem zUY {P:Program}{ops:Array Oper}{o:Oper}{a:Act}{w w':World}{K:Act→World→Prop}{Q:Exit→Act→World→Prop}{E:Prop}
 (hg:o.guard=none)(d s:Operand)(t:TypeId)(hop:o.op=Op.call {callee:=Callee.builtin Builtin.copy,args:=#[d,s],argTypes:=#[t,t]})
 (vd vs:Value)(hd:a.eval d=vd)(hs:a.eval s=vs)(v:Value)(hrun:(Builtin.copy_ #[t,t] o.type #[vd,vs]).run P w=.ok v w')(hK:K (a.put o.dst v) w') :
 if Region.wanted o (yielded ops a.tmps)=true then Oper.wp P o a w K Q else E:=by
 have hw:Region.wanted o (yielded ops a.tmps)=true:=by simp[Region.wanted,hg]
 rw[if_pos hw];unfold Oper.wp;simp[execOp,hop,resolve,invoke,builtin,hs,hd,hrun,Result.andThen];exact hK
theorem zXe (z:Value)(n:Nat):madeCells #[z] n=Array.replicate n z:=Array.ext (by simp[madeCells]) (by intro i h1 h2; simp[madeCells,Nat.mod_one])
theorem zIH (w:World)(cur cur':Array Value):(w.alloc (.cells cur 44)).setRow w.heap.size cur'=w.alloc (.cells cur' 44):=by unfold World.setRow World.alloc;simp only[World.mk.injEq,and_true];apply Array.ext_getElem?;intro k;simp only[Array.getElem?_modify,Array.getElem?_push];split<;>split<;>simp_all
theorem zSb (b o cap:Nat)(v:Value)(w:World)(hv:w.cell? ⟨b,o,none⟩=some v) :
 Calls prog 119 #[.slice (some ⟨b,o,none⟩) 1 cap,.int .i64 0] w fun e w'=>e=.returned (.slice (some ⟨w.heap.size,0,none⟩) 0 0)∧w'=w.alloc (.cells #[] 44):=by
 have h:=zRR 0 (by simp);have hm:∀w:World,(Instr.makeSlice 161 (.int .i64 0) (.int .i64 0)).run prog w=.ok (.slice (some ⟨w.heap.size,0,none⟩) 0 0) (w.alloc (.cells #[] 44)):=fun w=>(zRP 0 (by decide) w).trans (by rw[zXe]; rfl)
 go_enter Tryz.func119,Tryz.ntmps119
 go_wp2_with (go_at_call 156; refine(h _).mono ?_; rintro e w' ⟨rfl,rfl⟩)
 have hcp:=run_copy_none (P:=prog) (w'.alloc (.cells #[] 44)) 161 161 3 44 (some ⟨w'.heap.size,0,none⟩) (some ⟨b,o,none⟩) 0 0 1 cap u49 zZK (by rfl)
 go_wp2
 rw[hcp]
 go_wp2
 refine wp_loop_rounds 1 ?_;simp only[Code.rounds]
 go_wp2
 go_ret
 exact⟨rfl,rfl⟩
theorem zSc (b o cap:Nat)(v:Value)(w:World)(hv:w.cell? ⟨b,o,none⟩=some v)(h1:v.oneCell'=true)(hb:b<w.heap.size) :
 Calls prog 119 #[.slice (some ⟨b,o,none⟩) 1 cap,.int .i64 1] w fun e w'=>e=.returned (.slice (some ⟨w.heap.size,0,none⟩) 1 1)∧w'=w.alloc (.cells #[v] 44):=by
 have h:=zRR 1 (by simp);have hm:∀w:World,(Instr.makeSlice 161 (.int .i64 1) (.int .i64 1)).run prog w=.ok (.slice (some ⟨w.heap.size,0,none⟩) 1 1) (w.alloc (.cells #[.slice none 0 0] 44)):=fun w=>(zRP 1 (by decide) w).trans (by rw[zXe]; rfl)
 go_enter Tryz.func119,Tryz.ntmps119
 go_wp2_with (go_at_call 156; refine(h _).mono ?_; rintro e w' ⟨rfl,rfl⟩)
 have hcp:=run_copy_row (P:=prog) (w'.alloc (.cells #[.slice none 0 0] 44)) 161 161 3 44 w'.heap.size 0 1 1 ⟨b,o,none⟩ 1 cap #[.slice none 0 0] 44 [v] u49 zZK (heap_alloc_new _ _) (by rfl)
  (by
   intro j u hj;cases j with
   | succ j=>simp at hj
   | zero =>
    simp at hj;subst hj;rw[←hv];exact World.cell?_alloc_lt _ _ (a:=⟨b,o+0,none⟩) hb) (by simp) (by simpa using h1)
 rw[zIH]at hcp;simp only[List.take_zero,jBm,jAl,jBu,List.drop_succ_cons,jAt,List.drop_nil,jBw]at hcp
 go_wp2
 rw[hcp]
 go_wp2
 refine wp_loop_rounds 1 ?_;simp only[Code.rounds]
 go_wp2
 go_ret
 exact⟨rfl,rfl⟩
theorem zSd (b o cap:Nat)(v:Value)(w:World)(hv:w.cell? ⟨b,o,none⟩=some v)(h1:v.oneCell'=true)(hb:b<w.heap.size) :
 Calls prog 119 #[.slice (some ⟨b,o,none⟩) 1 cap,.int .i64 2] w fun e w'=>e=.returned (.slice (some ⟨w.heap.size,0,none⟩) 2 2)∧w'=(w.alloc (.cells #[v,v] 44)).drew:=by
 have h:=zRR 2 (by simp);have hm:∀w:World,(Instr.makeSlice 161 (.int .i64 2) (.int .i64 2)).run prog w=.ok (.slice (some ⟨w.heap.size,0,none⟩) 2 2) (w.alloc (.cells #[.slice none 0 0,.slice none 0 0] 44)):=fun w=>(zRP 2 (by decide) w).trans (by rw[zXe]; rfl)
 go_enter Tryz.func119,Tryz.ntmps119
 go_wp2_with (go_at_call 156; refine(h _).mono ?_; rintro e w' ⟨rfl,rfl⟩)
 have hcp:=run_copy_row (P:=prog) (w'.alloc (.cells #[.slice none 0 0,.slice none 0 0] 44)) 161 161 3 44 w'.heap.size 0 2 2 ⟨b,o,none⟩ 1 cap #[.slice none 0 0,.slice none 0 0] 44 [v] u49 zZK (heap_alloc_new _ _) (by rfl)
  (by
   intro j u hj;cases j with
   | succ j=>simp at hj
   | zero =>
    simp at hj;subst hj;rw[←hv];exact World.cell?_alloc_lt _ _ (a:=⟨b,o+0,none⟩) hb) (by simp) (by simpa using h1)
 rw[zIH]at hcp;simp only[List.take_zero,jBm,jAl,jBu,List.drop_succ_cons,List.drop_zero,jAt,jB5]at hcp
 go_wp2
 rw[hcp]
 go_wp2
 refine wp_loop_rounds 2 ?_;simp only[Code.rounds]
 go_wp2
 have hcp2:=run_copy_row (P:=prog) (w'.alloc (.cells #[v,.slice none 0 0] 44)).drew 161 161 3 44 w'.heap.size 1 1 1 ⟨w'.heap.size,0,none⟩ 1 2 #[v,.slice none 0 0] 44 [v] u49 zZK (heap_alloc_new _ _) (by rfl)
  (by
   intro j u hj;cases j with
   | succ j=>simp at hj
   | zero =>
    simp at hj;subst hj;exact World.cell?_alloc_new _ _ 44 0) (by simp) (by simpa using h1)
 have e:(w'.alloc (.cells #[v,.slice none 0 0] 44)).drew.setRow w'.heap.size (List.take 1 #[v,.slice none 0 0].toList++[v]++List.drop (1+[v].length) #[v,.slice none 0 0].toList).toArray=(w'.alloc (.cells #[v,v] 44)).drew:=by show ((w'.alloc (.cells #[v,.slice none 0 0] 44)).setRow w'.heap.size _).drew=_;rw[zIH];rfl
 rw[e]at hcp2
 go_region_law (refine zUY rfl (.tmp 41) (.tmp 44) 161 rfl _ _ rfl rfl _ hcp2 ?_)
 go_wp2
 go_ret
 exact⟨rfl,rfl⟩
theorem zIo {H:Mem}{L:List LI} {σ : St}{w:World}(hs:RelSt H L σ w):Nxt H L w H L σ w.drew :=
 ⟨hs.heap_eq rfl,⟨rfl,rfl,rfl,jA _,fun _ _ _=>rfl,HLe.refl _,fun _ _ _ h=>.inl h,jCa _,fun _ _ h=>h⟩,LLe.refl _,fun _ h=>.inl h⟩
theorem zGq {H:Mem}{L:List LI}{c:A}{v:Value}(h:Rel H L c v):∀n,zT H L (List.replicate n c) (List.replicate n v)
 | 0=>jM
 | n+1=>qT h (zGq h n)
theorem zUP (n:Nat)(hn:n≤2)(c:A):Ret prog 119 [.sl 1 [c],int n] [] (.sl n (List.replicate n c)) []:=by
 intro H L w vs hs hvs;obtain⟨x,t,rfl,hx,ht⟩:=zV hvs;obtain⟨y,t,rfl,hy,ht⟩:=zV ht;obtain rfl:=jK ht;simp only[int,Rel]at hx hy;subst hy;obtain⟨a,cap,rfl,h1,h2,h3⟩:=hx;rcases h3 with h3 | ⟨b,o,us,rfl,hc,ho,hat⟩
 ·omega
 obtain⟨v,t,rfl,hv,ht⟩:=zV hc;obtain rfl:=jK ht;have hp:=hs.pers b o v (by simpa using hat 0 v rfl);have h1v:v.oneCell'=true:=ho v (by simp);have hb:=World.block_lt_of_cell? w _ hp;have key:Calls prog 119 #[.slice (some ⟨b,o,none⟩) 1 cap,.int .i64 n] w fun e w'=>e=.returned (.slice (some ⟨w.heap.size,0,none⟩) n n) ∧
  (w'=w.alloc (.cells (List.replicate n v).toArray 44)∨w'=(w.alloc (.cells (List.replicate n v).toArray 44)).drew):=by
  have h:n=0∨n=1∨n=2:=by omega
  rcases h with rfl | rfl | rfl
  ·exact(zSb b o cap v w hp).mono fun e w' h=>⟨h.1,.inl h.2⟩
  ·exact(zSc b o cap v w hp h1v hb).mono fun e w' h=>⟨h.1,.inl h.2⟩
  ·exact(zSd b o cap v w hp h1v hb).mono fun e w' h=>⟨h.1,.inr h.2⟩
 refine key.mono fun e w' h=>?_
 obtain⟨rfl,hw⟩:=h;obtain⟨hn1,hn2⟩:=zJR hs (List.replicate n v) 44;refine⟨.ret (.sl n (List.replicate n c)),[],zMi H w.heap.size (List.replicate n v),L,⟨_,rfl,?_⟩,?_,rfl,rfl⟩
 ·simp only[Rel];refine⟨_,n,rfl,jA _,by simp[maxLen]; omega,.inr ⟨w.heap.size,0,List.replicate n v,rfl,?_,fun u hu=>?_,hn2⟩⟩
  ·have hv':=Rel.mono hn1.step.hle (LLe.refl _) _ hv;exact zGq hv' n
  ·rw[(jCy.1 hu).2]; exact h1v
 ·rcases hw with rfl | rfl
  ·exact hn1
  ·exact hn1.trans (zIo hn1.st)
end Go.Proofs.YtdnelmeboihpkaaGreatDoor
namespace Go.Proofs.YtdnelmeboihpkaaGreatDoor
open Go.Abs
def zQS:K:=(K.ops [D 198 4 1,L 199 198 1,J 200 15 31,kd 201 41 31 1 kz0 [(0,31,(kt 200))],kP 202 41 31 352 199 201,D 203 4 1,S 203 202 1])
def zQR:K:=(Z (K.dops [(0,0,M 147 3),(1,0,D 148 4 1),(2,0,L 149 148 1),(3,0,M 150 13),(4,0,kX 151 149 150 31),(5,0,J 152 151 31),(6,0,D 153 4 1),(7,0,L 154 153 1),(8,0,M 155 12),(9,0,kX 156 154 155 31),(10,0,J 157 156 31),(11,0,D 158 14 0),(12,0,J 159 158 3),(13,4,kC 160 67 [(kt 147),(kt 152),(kt 157),(kt 159)]),(14,2,D 161 15 14),(15,0,S 161 160 15)]) (G [M 162 3,kC 163 65 [(kt 162),(kc 5)],kQi 164 163 1 false] (Y 164 (Z (K.wk (K.dops [(0,0,M 165 3),(1,0,kb 166 kz2 [(0,1,(kc 1))]),(2,0,D 167 4 1),(3,0,L 168 167 1),(4,0,M 169 12),(5,0,kX 170 168 169 31),(6,0,J 171 170 31),(7,0,D 172 14 0),(8,0,J 173 172 3),(9,11,kC 174 68 [(kt 165),(kt 166),(kt 171),(kt 173),(kc 1)]),(10,307,⟨none,.alr (some 16) 7 kz1⟩),(11,0,S 16 174 15)])) (Z (K.wk (K.dops [(0,0,M 175 3),(1,0,D 176 4 1),(2,0,L 177 176 1),(3,0,M 178 13),(4,0,kX 179 177 178 31),(5,0,J 180 179 31),(6,0,D 181 4 1),(7,0,L 182 181 1),(8,0,M 183 12),(9,0,kX 184 182 183 31),(10,0,J 185 184 31),(11,0,D 186 14 0),(12,0,J 187 186 3),(13,11,kC 188 67 [(kt 175),(kt 180),(kt 185),(kt 187)]),(14,308,⟨none,.alr (some 17) 8 kz1⟩),(15,0,S 17 188 15)])) (K.ops [M 189 3,kb 190 [ki,ki,ki] [],J 191 16 15,D 192 15 14,J 193 192 15,J 194 17 15,kd 195 39 15 3 kz4 [(0,15,(kt 191)),(15,15,(kt 193)),(30,15,(kt 194))],kC 196 66 [(kt 189),(kc 5),(kc 0),(kt 190),(kt 195)],D 197 15 14,S 197 196 15]))) ks)))
def zQQ:K:=(Z (G [M 134 12,M 135 13,kQ 136 134 135 false,M 137 136,T 137 true (M 138 3),T 137 true (kC 139 65 [(kt 138),(kc 2)]),T 137 true (kQi 140 139 1 false),kPf 141 137 140] (Y 141 (K.ops [M 142 3,D 143 14 0,J 144 143 3,kC 145 66 [(kt 142),(kc 2),(kc 0),(kt 144),(.const kl)],D 146 15 14,S 146 145 15]) (K.wk zQR))) (K.wk zQS))
def zN6:K:=(Z (K.wk (K.dops [(0,0,M 105 11),(1,0,⟨none,.bin (some 106) .add (kc 30) (kt 105)⟩),(2,1,kC 107 64 [(kt 106)]),(3,0,D 108 4 1),(4,0,L 109 108 1),(5,0,M 110 12),(6,0,kX 111 109 110 31),(7,0,D 112 111 0),(8,0,J 113 112 3),(9,1,kC 114 62 [(kt 113)]),(10,0,⟨none,.build (some 115) kz5 [(0,3,(kt 107)),(3,1,(.const (.string ⟨#[111,108,100]⟩))),(4,5,(kt 114))]⟩),(11,305,⟨none,.alr (some 14) 5 kz5⟩),(12,0,S 14 115 11)])) (Z (K.wk (K.dops [(0,0,M 116 11),(1,0,⟨none,.bin (some 117) .add (kc 6) (kt 116)⟩),(2,1,kC 118 64 [(kt 117)]),(3,1,kC 119 64 [(kc 0)]),(4,0,⟨none,.bslice (some 120) 9 1 7 [(.string ⟨#[]⟩),(.string ⟨#[]⟩),(.string ⟨#[]⟩),(.string ⟨#[]⟩),(.string ⟨#[]⟩),(.string ⟨#[]⟩),(.string ⟨#[]⟩)] [(0,1,(.const (.string ⟨#[99,48]⟩))),(1,1,(.const (.string ⟨#[99,49]⟩))),(2,1,(.const (.string ⟨#[99,50]⟩))),(3,1,(.const (.string ⟨#[99,51]⟩))),(4,1,(.const (.string ⟨#[99,52]⟩))),(5,1,(.const (.string ⟨#[99,53]⟩))),(6,1,(.const (.string ⟨#[99,54]⟩)))]⟩),(5,0,M 121 11),(6,0,kX 122 120 121 1),(7,0,L 123 122 1),(8,0,J 124 14 11),(9,0,kd 125 85 11 1 kz5 [(0,11,(kt 124))]),(10,0,D 126 4 1),(11,0,L 127 126 1),(12,0,M 128 13),(13,0,kX 129 127 128 31),(14,0,D 130 129 0),(15,0,J 131 130 3),(16,1,kC 132 62 [(kt 131)]),(17,0,kb 133 kz0 [(0,3,(kt 118)),(3,1,(kc 5)),(4,3,(kt 119)),(7,1,(kt 123)),(8,1,(kt 125)),(9,5,(kt 132))]),(18,306,⟨none,.alr (some 15) 6 kz0⟩),(19,0,S 15 133 31)])) (K.wk zQQ)))
def zQP:K:=(Z (G [kMi 18 0] (K.block 6 (K.loop (Z (G [M 204 18,D 205 4 1,L 206 205 1,kN 207 206,kB 208 204 207 .lss] (Y 208 ks (K.exit 6))) (Z (K.block 7 (K.dops [(0,1,D 211 4 0),(1,1,L 212 211 1),(2,0,D 213 4 0),(3,0,L 214 213 1),(4,0,kXi 215 214 6 0),(5,0,D 216 215 5),(6,0,L 217 216 1),(7,0,D 218 4 1),(8,0,L 219 218 1),(9,0,M 220 18),(10,0,kX 221 219 220 31),(11,0,D 222 221 0),(12,0,J 223 222 3),(13,0,kd 224 31 3 1 [ki,ki,ki] [(0,3,(kt 223))]),(14,0,kP 225 31 3 24 217 224),(15,0,kXi 226 212 6 0),(16,0,D 227 226 5),(17,0,S 227 225 1)])) (K.ops [M 209 18,kBi 210 209 1 .add,M 18 210])))))) (G [J 228 4 2,S 2 228 2] kr))
def zQO:K:=(G [M 80 3,kC 81 65 [(kt 80),(kc 8)],M 10 81] (Z (G [kMi 11 0] (K.block 4 (K.loop (Z (G [M 82 11,M 83 10,kB 84 82 83 .lss] (Y 84 ks (K.exit 4))) (Z (K.block 5 (G [M 87 3,M 88 5,kC 89 65 [(kt 87),(kt 88)],M 12 89] (G [M 90 3,M 91 5,kC 92 65 [(kt 90),(kt 91)],M 13 92] (Z (G [M 93 12,M 94 13,kQ 95 93 94 false,M 96 95,T 96 true (M 97 3),T 96 true (kC 98 65 [(kt 97),(kc 3)]),T 96 true (kBi 99 98 0 .gtr),kPf 100 96 99] (Y 100 (K.ops [M 101 12,kBi 102 101 1 .add,M 103 5,kB 104 102 103 .rem,M 13 104]) ks)) (K.wk zN6))))) (K.wk (K.ops [M 85 11,kBi 86 85 1 .add,M 11 86]))))))) (K.wk zQP)))
def qAv:K:=G [kZ 2 [kl,kl]] (G [M 19 0,kb 20 [kl,ki,ki] [(0,1,(kt 19)),(2,1,(kc 40))],kO 21 20,M 3 21] (G [kC 22 64 [(kc 0)],⟨none,.build (some 23) kz9 [(0,3,(kt 22)),(3,1,(.const (.string ⟨#[99,111,114,101]⟩)))]⟩,⟨none,.brow (some 24) 112 6 1 kz9 [(0,6,(kt 23))]⟩,kb 25 [kl,kl] [(0,1,(kt 24))],kZ 4 [kl,kl],S 4 25 2] (G [M 26 3,kC 27 65 [(kt 26),(kc 3)],⟨none,.bin (some 28) .add (kc 2) (kt 27)⟩,M 5 28] (Z (G [kMi 6 0] (K.block 0 (K.loop (Z (G [M 29 6,M 30 5,kB 31 29 30 .lss] (Y 31 ks (K.exit 0))) (Z (K.block 1 (Z (K.dops [(0,0,M 34 6),(1,0,⟨none,.bin (some 35) .add (kc 1) (kt 34)⟩),(2,1,kC 36 64 [(kt 35)]),(3,1,kC 37 64 [(kc 0)]),(4,0,⟨none,.bslice (some 38) 9 1 4 [(.string ⟨#[]⟩),(.string ⟨#[]⟩),(.string ⟨#[]⟩),(.string ⟨#[]⟩)] [(0,1,(.const (.string ⟨#[65]⟩))),(1,1,(.const (.string ⟨#[66]⟩))),(2,1,(.const (.string ⟨#[67]⟩))),(3,1,(.const (.string ⟨#[68]⟩)))]⟩),(5,0,M 39 6),(6,1,kX 40 38 39 1),(7,1,L 41 40 1),(8,0,kb 42 kz0 [(0,3,(kt 36)),(3,1,(kc 0)),(4,3,(kt 37)),(7,1,(kt 41))]),(9,0,kZ 7 kz0),(10,0,S 7 42 31)]) (G [M 43 3,kC 44 65 [(kt 43),(kc 2)],⟨none,.bin (some 45) .add (kc 1) (kt 44)⟩,M 8 45] (Z (G [kMi 9 0] (K.block 2 (K.loop (Z (G [M 46 9,M 47 8,kB 48 46 47 .lss] (Y 48 ks (K.exit 2))) (Z (K.block 3 (K.dops [(0,2,D 51 7 8),(1,2002,L 52 51 1),(2,0,M 53 6),(3,0,⟨none,.bin (some 54) .mul (kc 2) (kt 53)⟩),(4,0,⟨none,.bin (some 55) .add (kc 20) (kt 54)⟩),(5,0,
 M 56 9),(6,0,kB 57 55 56 .add),(7,0,kC 58 64 [(kt 57)]),(8,0,⟨none,.bslice (some 59) 9 1 2 [(.string ⟨#[]⟩),(.string ⟨#[]⟩)] [(0,1,(.const (.string ⟨#[120]⟩))),(1,1,(.const (.string ⟨#[121]⟩)))]⟩),(9,0,M 60 9),(10,2,kX 61 59 60 1),(11,2,L 62 61 1),(12,0,M 63 9),(13,0,kd 64 3 1 3 [ki,ki,ki] [(0,1,(kc 0)),(1,1,(kc 1)),(2,1,(kc 0))]),(14,0,M 65 3),(15,1002,kC 66 65 [(kt 65),(kc 3)]),(16,0,kX 67 64 66 1),(17,0,L 68 67 1),(18,0,kb 69 kz2 [(0,1,(kt 68))]),(19,0,kb 70 kz5 [(0,3,(kt 58)),(3,1,(kt 62)),(10,1,(kt 63)),(4,5,(kt 69))]),(20,0,kd 71 85 11 1 kz5 [(0,11,(kt 70))]),(21,0,kP 72 85 11 112 52 71),(22,2,D 73 7 8),(23,0,S 73 72 1)])) (K.ops [M 49 9,kBi 50 49 1 .add,M 9 50])))))) (K.wk (K.ops [D 74 4 1,L 75 74 1,J 76 7 31,kd 77 41 31 1 kz0 [(0,31,(kt 76))],kP 78 41 31 352 75 77,D 79 4 1,S 79 78 1])))))) (K.ops [M 32 6,kBi 33 32 1 .add,M 6 33])))))) (K.wk zQO)))))
def qJn:Nat→Option (List (Nat×Nat)):=fun r=>match r with | 12=>some [(0,2),(1,2002),(2,0),(3,0),(4,0),(5,0),(6,0),(7,0),(8,0),(9,0),(10,2),(11,2),(12,0),(13,0),(14,0),(15,1002),(16,0),(17,0),(18,0),(19,0),(20,0),(21,0),(22,2),(23,0)] | 22=>some [(0,0),(1,0),(2,1),(3,0),(4,0),(5,0),(6,0),(7,0),(8,0),(9,1),(10,0),(11,305),(12,0)] | 23=>some [(0,0),(1,0),(2,1),(3,1),(4,0),(5,0),(6,0),(7,0),(8,0),(9,0),(10,0),(11,0),(12,0),(13,0),(14,0),(15,0),(16,1),(17,0),(18,306),(19,0)] | 26=>some [(0,0),(1,0),(2,0),(3,0),(4,0),(5,0),(6,0),(7,0),(8,0),(9,0),(10,0),(11,0),(12,0),(13,4),(14,2),(15,0)] | 28=>some [(0,0),(1,0),(2,0),(3,0),(4,0),(5,0),(6,0),(7,0),(8,0),(9,11),(10,307),(11,0)] | 29=>some [(0,0),(1,0),(2,0),(3,0),(4,0),(5,0),(6,0),(7,0),(8,0),(9,0),(10,0),(11,0),(12,0),(13,11),(14,308),(15,0)] | _=>none
theorem qIg:qD prog Tryz.f28.ntmps qJn (Tryz.f28.body.getD .skip)=some qAv.erase:=by kernel_rfl
@[simp] theorem qLJ:zB prog 28=true:=by kernel_rfl
section
variable {l:List Int}
def zDk:List A:=[int (idR 0).a,int (idR 0).b,int (idR 0).c,.lit (.string ⟨#[99,111,114,101]⟩),.nil,.nil]
def stG (l:List Int)(m:Gm)(Ds:List Dfn):St :=
 [.box [.nil,.nil],.box (gB l m),.row false 112 6 1 zDk,.box [.row 2 1,.row 4 Ds.length],.row false 41 31 Ds.length (qI Ds)]
theorem zMK (a b:Dfn)(s:Id)(m:Gm)(h:b.slots.length≤6):Gst m (zBV l a b s m).2 400:=by
 unfold zBV;have h1:=zKr (l:=l) b a s m h;split
 ·have h2:=zBY l a s 1 1 (zFk l b a s m).2.tick;have h3:=zKr (l:=l) b a s (zAM l a s 1 1 (zFk l b a s m).2.tick).2 h;exact((((h1.trans (zZ _) (jAf _)).trans h2 (jAf _)).trans h3 (jAf _)).trans (zBX _ _ _ _ _) (by simp[gC]))
 ·exact h1.trans (zZ _) (by omega)
def zBP (l:List Int)(x y:Nat)(A B:Dfn)(s:Id)(m:Gm):Exp×Gm:=if x=y then (if gN l m 2=1 then yP m.tick 2 0 s [] else zBV l A B s m.tick) else zBV l A B s m
theorem zRy (x y:Nat)(a b:Dfn)(s:Id)(m:Gm)(h:b.slots.length≤6):Gst m (zBP l x y a b s m).2 401:=by
 unfold zBP;split
 ·split
  ·exact(zZ m).trans (zBX _ _ _ _ _) (by omega)
  ·exact(zZ m).trans (zMK a b s _ h) (by omega)
 ·exact(zMK a b s _ h).mono (by omega)
theorem zSH {Ds:List Dfn}{k:Nat}(h:k<Ds.length):∃a:List A,zF Ds[k]=a∧(∀rf g,vwL rf g a=a)∧jF a=a∧(∀n,zBq n a=true)∧(qI Ds).drop (k*31)=a++qI (Ds.drop (k+1))∧(∀R:List A,List.take 31 (a++R)=a)∧k*31+31≤Ds.length*31 :=
 ⟨_,rfl,fun rf g=>(zA3 _).2 _ _,(zA3 _).1,fun n=>(zA3 _).bnd n,zAH h,fun R=>List.take_left' (zWn _),by omega⟩
theorem zXx (hl:∀x∈l,w64 x=x)(Q:Ex→Env→St→Prop)(m:Gm)(hok:m.Ok 450)(Ds:List Dfn)(x y i:Nat)(hx:x<Ds.length)(hy:y<Ds.length)(hD:Ds.length≤100)(many cv:Int)(u:Slt)(d:Dfn)(hd:d.body=Exp.zero)
 (h1:Ds[x].slots.length≤6)(h2:Ds[y].slots.length≤6)(hf:∀u∈Ds[y].slots,u.typ=tK u.typ.k∧(u.typ.k=0∨u.typ.k=1))
 (hQ:∀env' σ',zA7 0 (qG [(2,.ptr 0 0),(3,.ptr 1 0),(4,.ptr 3 0),(5,int many),(10,int cv),(11,int i),(15,.ptr 6 0)]) (stG l (zBV l Ds[x] Ds[y] u.id m).2 Ds++[.box (yK u),.box (zF {d with body:=(zBV l Ds[x] Ds[y] u.id m).1})]) env' σ'→Q .norm env' σ') :
 wpK prog 0 zQR Q (qG [(2,.ptr 0 0),(3,.ptr 1 0),(4,.ptr 3 0),(5,int many),(10,int cv),(11,int i),(12,int x),(13,int y),(14,.ptr 5 0),(15,.ptr 6 0)])
  (stG l m Ds++[.box (yK u),.box (zF d)]):=by
 obtain⟨r,hr⟩:∃r,r=zFk l Ds[y] Ds[x] u.id m:=⟨_,rfl⟩;have g1:=zMA hl Ds[y] Ds[x] u.id h2 h1 hf m (hok.mono (by omega));have s1:=zKr (l:=l) Ds[y] Ds[x] u.id m h2;rw[←hr]at g1 s1;have n1:=zB7 (l:=l) r.2 5 (by omega) (hok.adv s1 (by omega));obtain⟨ax,eax,vx,nx,bx,dx,tx,lx⟩:=zSH hx;obtain⟨ay,eay,vy,ny,by_,dy,ty,ly⟩:=zSH hy;rw[eax,eay]at g1;have hne:Ds≠[]:=fun e=>by rw[e]at hx; simp at hx
 unfold zQR;simp -implicitDefEqProofs [stG,gB,yK,dx,dy,tx,ty,lx,ly,hx,hy,hne];refine zBb g1 [1] (by decide) (by simp[gS,gB]) (by simp[vx,vy,zG]) ?_;simp -implicitDefEqProofs [gS,gB,zF];refine jO n1 [1] (by decide) (by simp[gS,gB]) (by simp) ?_;have hrec:∀q:Exp×Gm,zBV l Ds[x] Ds[y] u.id m=q→∀E S,zA7 0 (qG [(2,.ptr 0 0),(3,.ptr 1 0),(4,.ptr 3 0),(5,int many),(10,int cv),(11,int i),(15,.ptr 6 0)]) (stG l q.2 Ds++[.box (yK u),.box (zF {d with body:=q.1})]) E S→Q .norm E S:=fun q hq E S hw=>hQ E S (by rw[hq]; exact hw)
 by_cases h5:gN l r.2 5=1
 ·have st1:Gst m r.2.tick 171:=s1.trans (zZ _) (by omega);obtain⟨c,hc⟩:∃c,c=zAM l Ds[x] u.id 1 1 r.2.tick:=⟨_,rfl⟩;have c1:=zIq hl Ds[x] u.id h1 1 (by omega) r.2.tick 1 (.inr rfl) (hok.adv st1 (by simp[gC]));have s2:=zBY l Ds[x] u.id 1 1 r.2.tick;rw[←hc]at c1 s2;have st2:Gst m c.2 182:=st1.trans s2 (by simp[gC]);obtain⟨r2,hr2⟩:∃r2,r2=zFk l Ds[y] Ds[x] u.id c.2:=⟨_,rfl⟩;have g2:=zMA hl Ds[y] Ds[x] u.id h2 h1 hf c.2 (hok.adv st2 (by omega));have s3:=zKr (l:=l) Ds[y] Ds[x] u.id c.2 h2;rw[←hr2]at g2 s3;have n2:=zBc (l:=l) r2.2 5 0 Id.zero [c.1,r.1,r2.1] (hok.adv (st2.trans s3 (jAf _)) (by omega));rw[eax,eay]at g2;rw[eax]at c1;have hq:zBV l Ds[x] Ds[y] u.id m=yP r2.2 5 0 Id.zero [c.1,r.1,r2.1]:=by simp only[zBV,←hr,if_pos h5,←hc,←hr2]
  simp -implicitDefEqProofs [gS,gB,h5];refine⟨_,_,yW 1,?_⟩;simp -implicitDefEqProofs [List.replicate,dx,dy,tx,ty,lx,ly,hx,hy,hne];refine zSG c1 [1] (by decide) (by simp[gS]) (by simp[gS]) (by simp[gS,gB]) (by simp[vx,zG,zM,tK,zAc,Typ.k,Typ.id,Typ.kids]) (by simp[gS]) ?_;simp -implicitDefEqProofs [gS,gB];refine⟨_,_,yW 1,?_⟩;simp -implicitDefEqProofs [List.replicate,dx,dy,tx,ty,lx,ly,hx,hy,hne];refine zSG g2 [1] (by decide) (by simp[gS]) (by simp[gS]) (by simp[gS,gB]) (by simp[vx,vy,zG]) (by simp[gS]) ?_;simp -implicitDefEqProofs [gS,gB,zU];refine jO n2 [1] (by decide) (by simp[gS,gB]) (by simp[zG,Id.zero,qB,zU]) ?_;simp -implicitDefEqProofs [gS,gB,zU];exact hrec _ hq _ _ (zP [0,1,2,3,4,5,6] 0 (by decide) (by simp) (by simp[stG,gB,zDk,yK,zF,zU]) (by simp))
 ·have hq:zBV l Ds[x] Ds[y] u.id m=(r.1,r.2.tick):=by simp only[zBV,←hr,if_neg h5]
  simp -implicitDefEqProofs [gS,gB,h5];exact hrec _ hq _ _ (zP [0,1,2,3,4,5,6] 0 (by decide) (by simp) (by simp[stG,gB,zDk,yK,zF,zU]) (by simp))
theorem zRU (Q:Ex→Env→St→Prop)(m:Gm)(Ds:List Dfn)(i:Nat)(hD:Ds.length≤100)(many cv:Int)(u:Slt)(d:Dfn)
 (hQ:∀env' σ',zA7 0 (qG [(2,.ptr 0 0),(3,.ptr 1 0),(4,.ptr 3 0),(5,int many),(10,int cv),(11,int i)]) (stG l m (Ds++[d])) env' σ'→Q .norm env' σ') :
 wpK prog 0 zQS Q (qG [(2,.ptr 0 0),(3,.ptr 1 0),(4,.ptr 3 0),(5,int many),(10,int cv),(11,int i),(15,.ptr 6 0)]) (stG l m Ds++[.box (yK u),.box (zF d)]):=by
 unfold zQS;simp -implicitDefEqProofs [stG,gB,zF];refine⟨⟨by simp[maxLen]; omega,by omega⟩,?_⟩;exact hQ _ _ (zP [0,1,2,3,4] 0 (by decide) (by simp) (by simp[stG,gB,zDk,zGS,zJ4,zF]) (by simp))
theorem qDI (hl:∀x∈l,w64 x=x)(Q:Ex→Env→St→Prop)(m:Gm)(hok:m.Ok 500)(Ds:List Dfn)(x y i:Nat)(hx:x<Ds.length)(hy:y<Ds.length)(hD:Ds.length≤100)(many cv:Int)(u:Slt)(d:Dfn)(hd:d.body=Exp.zero)
 (h1:Ds[x].slots.length≤6)(h2:Ds[y].slots.length≤6)(hf:∀u∈Ds[y].slots,u.typ=tK u.typ.k∧(u.typ.k=0∨u.typ.k=1))
 (hQ:∀env' σ',zA7 0 (qG [(2,.ptr 0 0),(3,.ptr 1 0),(4,.ptr 3 0),(5,int many),(10,int cv),(11,int i)]) (stG l (zBP l x y Ds[x] Ds[y] u.id m).2 (Ds++[{d with body:=(zBP l x y Ds[x] Ds[y] u.id m).1}])) env' σ'→Q .norm env' σ') :
 wpK prog 0 zQQ Q (qG [(2,.ptr 0 0),(3,.ptr 1 0),(4,.ptr 3 0),(5,int many),(10,int cv),(11,int i),(12,int x),(13,int y),(14,.ptr 5 0),(15,.ptr 6 0)])
  (stG l m Ds++[.box (yK u),.box (zF d)]):=by
 have hrec:∀q:Exp×Gm,zBP l x y Ds[x] Ds[y] u.id m=q→∀E S,zA7 0 (qG [(2,.ptr 0 0),(3,.ptr 1 0),(4,.ptr 3 0),(5,int many),(10,int cv),(11,int i)]) (stG l q.2 (Ds++[{d with body:=q.1}])) E S→Q .norm E S:=fun q hq E S hw=>hQ E S (by rw[hq]; exact hw)
 unfold zQQ;by_cases hxy:x=y
 ·have n1:=zB7 (l:=l) m 2 (by omega) (hok.mono (by omega));have hxy':(x:Int)=y:=by omega
  simp -implicitDefEqProofs [stG,gB,hxy'];refine jO n1 [1] (by decide) (by simp[gS,gB]) (by simp) ?_;by_cases h2':gN l m 2=1
  ·have hq:zBP l x y Ds[x] Ds[y] u.id m=yP m.tick 2 0 u.id []:=by simp only[zBP,if_pos hxy,if_pos h2']
   have n2:=zBc (l:=l) m.tick 2 0 u.id [] (hok.adv (zZ m) (by omega));simp -implicitDefEqProofs [gS,gB,h2',yK,zF];refine jO n2 [1] (by decide) (by simp[gS,gB]) (by simp[zG]) ?_;simp -implicitDefEqProofs [gS,gB,zU];refine⟨_,_,zP [0,1,2,3,4,5,6] 0 (by decide) (by simp) ?_ (by simp),zRU Q _ Ds i hD many cv u _ (hrec _ hq)⟩;simp[stG,gB,zDk,yK,zF,zU]
  ·have hq:zBP l x y Ds[x] Ds[y] u.id m=zBV l Ds[x] Ds[y] u.id m.tick:=by simp only[zBP,if_pos hxy,if_neg h2']
   simp -implicitDefEqProofs [gS,gB,h2'];refine⟨_,_,zP [0,1,2,3,4,5,6] 0 (by decide) (by simp) ?_ ?_,zXx hl _ m.tick (hok.adv (zZ m) (by omega)) Ds x y i hx hy hD many cv u d hd h1 h2 hf ?_⟩
   ·simp[stG,gB,zDk,yK]
   ·simp[hxy']
   ·intro E S hw;simp -implicitDefEqProofs;exact⟨_,_,hw,zRU Q _ Ds i hD many cv u _ (hrec _ hq)⟩
 ·have hxy':¬(x:Int)=y:=by omega
  have hq:zBP l x y Ds[x] Ds[y] u.id m=zBV l Ds[x] Ds[y] u.id m:=by simp only[zBP,if_neg hxy]
  simp -implicitDefEqProofs [stG,gB,hxy'];refine⟨_,_,zP [0,1,2,3,4,5,6] 0 (by decide) (by simp) ?_ ?_,zXx hl _ m (hok.mono (by omega)) Ds x y i hx hy hD many cv u d hd h1 h2 hf ?_⟩
  ·simp[stG,gB,zDk,yK]
  ·simp
  ·intro E S hw;simp -implicitDefEqProofs;exact⟨_,_,hw,zRU Q _ Ds i hD many cv u _ (hrec _ hq)⟩
theorem qIm {i:Nat}(h:i<7):∃R,List.drop i [A.lit (.string ⟨#[99,48]⟩),.lit (.string ⟨#[99,49]⟩),.lit (.string ⟨#[99,50]⟩),.lit (.string ⟨#[99,51]⟩),.lit (.string ⟨#[99,52]⟩),.lit (.string ⟨#[99,53]⟩),.lit (.string ⟨#[99,54]⟩)]=.lit (.string (cT.getD i ⟨#[]⟩))::R:=by
 have:i=0∨i=1∨i=2∨i=3∨i=4∨i=5∨i=6:=by omega
 rcases this with rfl | rfl | rfl | rfl | rfl | rfl | rfl<;>exact⟨_,rfl⟩
def zR0 (i:Nat)(a:Id):Slt:=⟨idR ((30+i:Nat):Int),⟨#[111,108,100]⟩,jP a,0,0⟩
def zRz (i:Nat)(a b:Id):Dfn:=⟨idR ((6+i:Nat):Int),5,idR 0,cT.getD i ⟨#[]⟩,[zR0 i a],jP b,.zero,0,[]⟩
theorem qDH (hl:∀x∈l,w64 x=x)(Q:Ex→Env→St→Prop)(m:Gm)(hok:m.Ok 500)(Ds:List Dfn)(x y i:Nat)(hx:x<Ds.length)(hy:y<Ds.length)(hD:Ds.length≤100)(hi:i<7)(many cv:Int)
 (h1:Ds[x].slots.length≤6)(h2:Ds[y].slots.length≤6)(hf:∀u∈Ds[y].slots,u.typ=tK u.typ.k∧(u.typ.k=0∨u.typ.k=1))
 (hQ:∀env' σ',zA7 0 (qG [(2,.ptr 0 0),(3,.ptr 1 0),(4,.ptr 3 0),(5,int many),(10,int cv),(11,int i)]) (stG l (zBP l x y Ds[x] Ds[y] (idR ((30+i:Nat):Int)) m).2 (Ds++[{zRz i Ds[x].id Ds[y].id with body:=(zBP l x y Ds[x] Ds[y] (idR ((30+i:Nat):Int)) m).1}])) env' σ'→Q .norm env' σ') :
 wpK prog 0 zN6 Q (qG [(2,.ptr 0 0),(3,.ptr 1 0),(4,.ptr 3 0),(5,int many),(10,int cv),(11,int i),(12,int x),(13,int y)]) (stG l m Ds):=by
 have w30:=jT (30+(i:Int)) (by omega);have w6:=jT (6+(i:Int)) (by omega);have i1:=zGe (30+(i:Int));have i2:=zGe (6+(i:Int));have i3:=zGe 0;have o1:=qB7 Ds[x].id;have o2:=qB7 Ds[y].id;have dx:=zAH hx;have dy:=zAH hy;have bx:x*31+3≤Ds.length*31:=by omega
 have by_:y*31+3≤Ds.length*31:=by omega
 have hne:Ds≠[]:=fun e=>by rw[e]at hx; simp at hx
 obtain⟨R,hcT⟩:=qIm hi;unfold zN6;simp -implicitDefEqProofs [stG,gB];refine⟨_,_,yW 1,?_⟩;simp -implicitDefEqProofs [List.replicate,w30];refine zAn i1 (by simp) (by simp[zG]) ?_;simp -implicitDefEqProofs [hx,hy,hne,dx,dy,bx,by_,zF];refine zAn o1 (by simp[zG]) (by simp[zM]) ?_;simp -implicitDefEqProofs [zM,zG];refine⟨_,_,yW 1,?_⟩;simp -implicitDefEqProofs [List.replicate,w6];refine zAn i2 (by simp) (by simp[zG]) ?_;refine zAn i3 (by simp) (by simp[zG]) ?_;have hi':(i:Int)<7:=by omega
 simp -implicitDefEqProofs [hi,hi',hcT,hy,hne,dy,by_,zF];refine zAn o2 (by simp[zG]) (by simp[zM]) ?_;simp -implicitDefEqProofs [zM,zG];refine⟨_,_,zP [0,1,2,3,4,5,6] 0 (by decide) (by simp) ?_ (by simp),qDI hl Q m hok Ds x y i hx hy hD many cv (zR0 i Ds[x].id) (zRz i Ds[x].id Ds[y].id) rfl h1 h2 hf hQ⟩;simp[stG,gB,zDk,yK,zF,zR0,zRz,jP,Typ.k,Typ.id,Typ.kids,Exp.zero,Id.zero,Typ.zero,zEa,zM]
end
@[simp] theorem qLR:zB prog 11=true:=by kernel_rfl
def zXa (p:Prg)(x:Id):Typ×Typ:=(yE p x).getD (.zero,.zero)
end Go.Proofs.YtdnelmeboihpkaaGreatDoor
