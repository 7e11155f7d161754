/-
  Weights of values; the orders are linear; slices.SortFunc at values.
  slices.Repeat for one element and up to two copies, by the kit's own walk, and as a contract over abstract states.
  The second generator's programs, walked: a converter's body.
  The reference's maker of paths.
-/
import Derived.Test.YtdnelmeboihpkaaGreatDoorX19
import Derived.Test.YtdnelmeboihpkaaGreatDoorX17
import Derived.Test.YtdnelmeboihpkaaGreatDoorX13
import Derived.Tactics2
import Derived.Handy
import Derived.Deep.Draws
import Derived.Laws.MakeOwn
import Derived.Deep.RegionLaw
import Derived.Laws.CopyRow
import Derived.Laws.IdiomCopy
import Derived.Laws.Rows
set_option linter.unusedVariables false
set_option maxHeartbeats 8000000
set_option maxRecDepth 100000
set_option linter.unusedSimpArgs false
open Go.Proofs.Tryz (prog)
namespace Go.Proofs.YtdnelmeboihpkaaGreatDoor
open Go.Abs
def qFh:K:=G [kO 1 0,kMi 2 0] (G [D 4 1 1,L 5 4 1,D 6 1 1,L 7 6 1,D 8 1 1,L 9 8 1,D 10 1 2,L 11 10 1,kN 12 11,kb 13 [ki,ki,ki,ki,ki] [(0,1,(kt 5)),(1,1,(kt 7)),(2,1,(kc 0)),(3,1,(kt 9)),(4,1,(kt 12))],kZ 3 [ki,ki,ki,ki,ki],S 3 13 5] (Z (G [D 14 1 0,L 15 14 1,kQi 16 15 0 false,M 17 16,T 17 true (D 18 1 1),T 17 true (L 19 18 1),T 17 true (kBi 20 19 0 .lss),kPf 21 17 20] (Y 21 (G [D 22 1 1,L 23 22 1,⟨none,.neg (some 24) (kt 23)⟩,M 2 24] kr) ks)) (G [D 25 1 0,L 26 25 1,⟨none,.idxarr (some 27) (kt 3) (kt 26) 5 1⟩,L 28 27 1,M 2 28] kr)))
theorem qMn:zR prog Tryz.f123.ntmps (Tryz.f123.body.getD .skip)=some qFh.erase:=by kernel_rfl
@[simp] theorem qN7:zA prog 123=true:=by kernel_rfl
def qFi:K:=G [kO 1 0,kMi 2 0] (Z (G [D 6 1 0,L 7 6 1,kBi 8 7 0 .lss,M 9 8,T 9 false (D 10 1 0),T 9 false (L 11 10 1),T 9 false (kBi 12 11 4 .gtr),kPt 13 9 12] (Y 13 (G [kMi 2 0] kr) ks)) (G [J 14 1 3,kC 15 123 [(kt 14)],M 3 15] (Z (G [D 16 1 0,L 17 16 1,kQi 18 17 0 false,M 19 18,T 19 false (D 20 1 0),T 19 false (L 21 20 1),T 19 false (kQi 22 21 1 false),kPt 23 19 22] (Y 23 (G [M 24 3,M 2 24] kr) ks)) (Z (G [D 25 1 2,L 26 25 1,kN 27 26,kMi 28 0] (K.block 0 (K.loop (G [kB 29 28 27 .lss] (Z (Y 29 ks (K.exit 0)) (Z (K.block 1 (G [kX 30 26 28 3,J 31 30 3,kZ 5 [ki,ki,kl],S 5 31 3] (K.ops [M 32 3,J 33 5 3,kC 34 81 [(kt 33)],kB 35 32 34 .add,M 3 35]))) (K.ops [kBi 36 28 1 .add,M 28 36]))))))) (G [M 37 3,M 2 37] kr)))))
theorem qMo:zR prog Tryz.f81.ntmps (Tryz.f81.body.getD .skip)=some qFi.erase:=by kernel_rfl
@[simp] theorem qN8:zA prog 81=true:=by kernel_rfl
def zY1:K:=G [kO 2 0,kO 3 1,kMi 4 0] (Z (K.dops [(0,0,J 5 2 3),(1,0,kC 6 81 [(kt 5)]),(2,0,J 7 3 3),(3,0,kC 8 81 [(kt 7)]),(4,0,kC 9 80 [(kt 6),(kt 8)]),(5,0,J 10 2 3),(6,0,J 11 3 3),(7,0,kC 12 60 [(kt 10),(kt 11)]),(8,0,kd 13 3 1 2 [ki,ki] [(0,1,(kt 9)),(1,1,(kt 12))]),(9,0,kC 14 79 [(kt 13)]),(10,0,M 4 14)]) kr)
theorem qGg:zR prog Tryz.f78.ntmps (Tryz.f78.body.getD .skip)=some zY1.erase:=by kernel_rfl
@[simp] theorem qJS:zA prog 78=true:=by kernel_rfl
def zNs (v:Val):Int:=if v.k=0∧v.n<0 then w64 (0-v.n) else if v.k=0∨v.k=1∨v.k=3 then v.n else if v.k=4 then v.kids.length else 0
theorem zRl (v:Val)(h0:0≤v.k)(h4:v.k≤4):Ret prog 123 [.agg (zF v)] [] (int (zNs v)) []:=by
 refine zI Tryz.func123 rfl qMn (rs:=[.slot 2]) (by kernel_rfl) ?_;unfold qFh;by_cases hk:v.k=0
 ·by_cases hn:v.n<0
  ·simp -implicitDefEqProofs [zF,hk,hn];exact fun _=>zB 0 (by simp[zNs,hk,hn,w64])
  ·simp -implicitDefEqProofs [zF,hk,hn];exact fun _=>zB 0 (by simp[zNs,hk,hn])
 ·simp -implicitDefEqProofs [zF,hk];intro hl;have hc:v.k=1∨v.k=2∨v.k=3∨v.k=4:=by omega
  rcases hc with h | h | h | h<;>simp -implicitDefEqProofs [h]<;>exact zB 0 (by simp[zNs,h])
def zB9:Val→Int
 | .mk k n l=>if k<0∨4<k then 0 else if k=0∨k=1 then zNs (.mk k n l) else l.attach.foldl (fun s x=>w64 (s+zB9 x.1)) (zNs (.mk k n l))
termination_by v=>qC v
decreasing_by
 have:=zEw x.2;simp only[qC]; omega
def zRg (s:Int)(l:List Val):Int:=l.foldl (fun s x=>w64 (s+zB9 x)) s
theorem zD0 (v:Val):zB9 v=if v.k<0∨4<v.k then 0 else if v.k=0∨v.k=1 then zNs v else zRg (zNs v) v.kids:=by
 cases v with
 | mk k n l =>
  rw[zB9];simp only[Val.k,Val.kids,zRg]
  congr 2
  rw[List.foldl_attach (f:=fun s x=>w64 (s+zB9 x))]
theorem zTD {s:Int}{l:List Val}{i:Nat}(h:i<l.length):zRg s (l.take (i+1))=IntKind.i64.wrap (zRg s (l.take i)+zB9 l[i]):=by rw[zRg,jAa h,jCg];rfl
theorem zIL (v:Val):Ret prog 81 [.agg (zF v)] [] (int (zB9 v)) []:=by
 refine zI Tryz.func81 rfl qMo (rs:=[.slot 2]) (by kernel_rfl) ?_;unfold qFi;by_cases hk:v.k<0
 ·simp -implicitDefEqProofs [zF,hk];exact zB 0 (by simp[zD0 v,hk])
 by_cases hk':4<v.k
 ·simp -implicitDefEqProofs [zF,hk,hk'];exact zB 0 (by simp[zD0 v,hk'])
 simp -implicitDefEqProofs [zF,hk,hk'];refine qD (zRl v (by omega) (by omega)) (by simp[zF]) (by simp) ?_;by_cases h0:v.k=0
 ·simp -implicitDefEqProofs [h0];exact zB 0 (by simp[zD0 v,h0])
 by_cases h1:v.k=1
 ·simp -implicitDefEqProofs [h1];exact zB 0 (by simp[zD0 v,h1])
 simp -implicitDefEqProofs [h0,h1];intro hl;refine jM (S:=Nat) (fun i=>[(3,int (zRg (zNs v) (v.kids.take i))),(26,.sl v.kids.length (zK v.kids)),(27,int v.kids.length),(28,int i)]) (fun s=>[]) (fun i=>i≤v.kids.length) (fun i=>v.kids.length-i) 0 (by simp)
  (zO [] 0 (by simp) (by simp) (by simp) (by simp[zRg])) ?_
 intro i hi;simp -implicitDefEqProofs;refine qR (fun h=>?_) (fun h=>?_)<;>simp at h
 ·simp -implicitDefEqProofs [h,jL h];refine qD (zIL v.kids[i]) (by simp[zF]) (by simp) ?_;simp -implicitDefEqProofs;refine zP (i+1) h (by omega) (zO [] 0 (by simp) (by simp) (by simp) (by simp[qP h hl,zTD h]))
 ·have:i=v.kids.length:=by omega
  subst this;simp -implicitDefEqProofs;exact zB 0 (by simp[zD0 v,hk,hk',h0,h1])
termination_by qC v
decreasing_by exact zAH (jA3 _)
structure Lin {α : Type}(c : α→α→Int):Prop where
 refl:∀x,c x x=0
 eq:∀x y,c x y=0→x=y
 swap:∀x y,c x y<0↔0<c y x
 trans:∀x y z,c x y<0→c y z<0→c x z<0
theorem Lin.ord {α : Type}{c : α→α→Int}(h:Lin c):Ord c where
 irrefl x:=by rw[h.refl]; omega
 trans:=h.trans
 ntrans x y z h1 h2 h3:=by
  by_cases e1:c x y=0
  ·rw[h.eq _ _ e1]at h3; exact h2 h3
  by_cases e2:c y z=0
  ·rw[←h.eq _ _ e2]at h3; exact h1 h3
  have h4:c y x<0:=(h.swap y x).2 (by omega);have h5:=h.trans _ _ _ h4 h3;exact h2 h5
 anti x y h1 h2:=by
  by_cases e1:c x y=0
  ·exact h.eq _ _ e1
  ·have:c y x<0:=(h.swap y x).2 (by omega);exact(h2 this).elim
theorem zCH {a b:Int}:zA2 a b<0↔a<b:=by
 unfold zA2;split
 ·omega
 ·split<;>omega
theorem zF2 {a b:Int}:0<zA2 a b↔b<a:=by
 unfold zA2;split
 ·omega
 ·split<;>omega
theorem yK {a b:Int}:zA2 a b=0↔a=b:=by
 unfold zA2;split
 ·omega
 ·split<;>omega
theorem qH9:Lin zA2 where
 refl x:=yK.2 rfl
 eq x y h:=yK.1 h
 swap x y:=by rw[zCH,zF2]
 trans x y z:=by simp only[zCH]; omega
theorem zNr (a:Int):orI [a]=a:=by simp only[orI]; split<;>simp_all
theorem zKD (a:Int)(l:List Int):orI (a::l)=if a=0 then orI l else a:=rfl
theorem zVz {α : Type}{c d : α→α→Int}(hc0:∀x,c x x=0)(hcs:∀x y,c x y<0↔0<c y x)(hct:∀x y z,c x y<0→c y z<0→c x z<0)
 (hce:∀x y z,c x y=0→c x z=c y z∧c z x=c z y)(hd0:∀x,d x x=0)(hde:∀x y,c x y=0→d x y=0→x=y)(hds:∀x y,c x y=0→(d x y<0↔0<d y x))
 (hdt:∀x y z,c x y=0→c y z=0→d x y<0→d y z<0→d x z<0):Lin fun x y=>if c x y=0 then d x y else c x y where
 refl x:=by simp[hc0,hd0]
 eq x y h:=by
  split at h
  ·rename_i hc; exact hde x y hc h
  ·rename_i hc; exact(hc h).elim
 swap x y:=by
  by_cases h:c x y=0
  ·have h':c y x=0:=by have:=(hce x y x h).1;rw[hc0]at this;exact this.symm
   simp only[h,h',if_true];exact hds x y h
  ·have h':¬c y x=0:=fun e=>h (by
    have:=(hce y x y e).1;rw[hc0]at this;exact this.symm)
   simp only[h,h',if_false];exact hcs x y
 trans x y z:=by
  by_cases h1:c x y=0
  ·by_cases h2:c y z=0
   ·have h3:c x z=0:=by rw[(hce x y z h1).1]; exact h2
    simp only[h1,h2,h3,if_true];exact hdt x y z h1 h2
   ·have h3:¬c x z=0:=by rw[(hce x y z h1).1]; exact h2
    simp only[h1,h2,h3,if_true,if_false];intro _ h;rw[(hce x y z h1).1]; exact h
  ·by_cases h2:c y z=0
   ·have h3:¬c x z=0:=by rw[←(hce y z x h2).2]; exact h1
    simp only[h1,h2,h3,if_true,if_false];intro h _;rw[←(hce y z x h2).2]; exact h
   ·simp only[h1,h2,if_false];intro h4 h5;have h6:=hct x y z h4 h5;have h3:¬c x z=0:=by omega
    simp only[h3,if_false];exact h6
mutual
theorem zEa:∀(a:Val),zCd a a=0
 | .mk k n l=>by
  rw[zB2];have:zBa (.mk k n l) (.mk k n l)=0:=by simp[zBa,orI,yK.2]
  simp only[this,ne_eq,not_true_eq_false,if_false,Val.kids];exact zJQ l
theorem zJQ:∀(l:List Val),zAu l l=0
 | []=>by simp only[zAu]
 | a::l=>by simp only[zAu,zEa a,ne_eq,not_true_eq_false,if_false]; exact zJQ l
end
theorem zDh {a b:Val}:zBa a b=0↔a.k=b.k∧a.n=b.n∧a.kids.length=b.kids.length:=by
 simp only[zBa,orI];by_cases h1:a.k=b.k
 ·by_cases h2:a.n=b.n
  ·by_cases h3:a.kids.length=b.kids.length
   ·simp[h1,h2,h3,yK.2]
   ·have:¬zA2 a.kids.length b.kids.length=0:=fun e=>h3 (by have:=yK.1 e; omega)
    simp[h1,h2,h3,yK.2,this]
  ·have:¬zA2 a.n b.n=0:=fun e=>h2 (yK.1 e)
   simp[h1,h2,yK.2,this]
 ·have:¬zA2 a.k b.k=0:=fun e=>h1 (yK.1 e)
  simp[h1,this]
mutual
theorem zDe:∀(a b:Val),zCd a b=0→a=b
 | .mk k n l,.mk k' n' l',h=>by
  rw[zB2]at h;split at h
  ·rename_i h1; exact(h1 h).elim
  ·rename_i h1;simp only[ne_eq,Decidable.not_not]at h1;obtain⟨e1,e2,e3⟩:=zDh.1 h1;simp only[Val.k,Val.n,Val.kids]at e1 e2 e3 h;rw[e1,e2,zJS l l' h]
theorem zJS:∀(l l':List Val),zAu l l'=0→l=l'
 | [],[],_=>rfl
 | [],_::_,h=>by simp[zAu]at h
 | _::_,[],h=>by simp[zAu]at h
 | a::l,b::l',h=>by
  simp only[zAu]at h;split at h
  ·rename_i h1; exact(h1 h).elim
  ·rename_i h1;simp only[ne_eq,Decidable.not_not]at h1;rw[zDe a b h1,zJS l l' h]
end
theorem zHG {a b:Val}:zBa a b<0↔a.k<b.k∨(a.k=b.k∧(a.n<b.n∨(a.n=b.n∧a.kids.length<b.kids.length))):=by
 simp only[zBa,zKD,zNr];by_cases h1:a.k=b.k
 ·by_cases h2:a.n=b.n
  ·simp[h1,h2,yK.2,zCH];simp only[orI];split<;>rename_i h<;>simp_all [zCH];have:=yK.1 h; omega
  ·have:¬zA2 a.n b.n=0:=fun e=>h2 (yK.1 e)
   simp[h1,h2,yK.2,this,zCH]
 ·have:¬zA2 a.k b.k=0:=fun e=>h1 (yK.1 e)
  simp[h1,this,zCH]
theorem zVo {a b:Val}:0<zBa a b↔zBa b a<0:=by
 rw[zHG];simp only[zBa,zKD,zNr];by_cases h1:a.k=b.k
 ·by_cases h2:a.n=b.n
  ·simp[h1,h2,yK.2];simp only[orI];split<;>rename_i h<;>simp_all [zF2];have:=yK.1 h; omega
  ·have:¬zA2 a.n b.n=0:=fun e=>h2 (yK.1 e)
   simp[h1,yK.2,this,zF2];omega
 ·have:¬zA2 a.k b.k=0:=fun e=>h1 (yK.1 e)
  simp[this,zF2];omega
mutual
theorem zL9:∀(a b:Val),zCd a b<0↔0<zCd b a
 | .mk k n l,.mk k' n' l'=>by
  rw[zB2,zB2];by_cases h:zBa (.mk k n l) (.mk k' n' l')=0
  ·have h':zBa (.mk k' n' l') (.mk k n l)=0:=by rw[zDh]at *; omega
   simp only[h,h',ne_eq,not_true_eq_false,if_false,Val.kids];exact zJR l l'
  ·have h':¬zBa (.mk k' n' l') (.mk k n l)=0:=by rw[zDh]at *; omega
   simp only[h,h',ne_eq,not_false_eq_true,if_true];rw[zVo]
theorem zJR:∀(l l':List Val),zAu l l'<0↔0<zAu l' l
 | [],[]=>by simp[zAu]
 | [],_::_=>by simp[zAu]
 | _::_,[]=>by simp[zAu]
 | a::l,b::l'=>by
  simp only[zAu];by_cases h:zCd a b=0
  ·have e:=zDe a b h;subst e;simp only[h,ne_eq,not_true_eq_false,if_false];exact zJR l l'
  ·have h':¬zCd b a=0:=fun e=>h (by rw[zDe b a e]; exact zEa a)
   simp only[h,h',ne_eq,not_false_eq_true,if_true];exact zL9 a b
end
mutual
theorem zJP:∀(a b c:Val),zCd a b<0→zCd b c<0→zCd a c<0
 | .mk k n l,.mk k' n' l',.mk k'' n'' l'',h1,h2=>by
  rw[zB2]at *
  by_cases e1:zBa (.mk k n l) (.mk k' n' l')=0
  ·by_cases e2:zBa (.mk k' n' l') (.mk k'' n'' l'')=0
   ·have e3:zBa (.mk k n l) (.mk k'' n'' l'')=0:=by rw[zDh]at *; omega
    simp only[e1,e2,e3,ne_eq,not_true_eq_false,if_false,Val.kids]at *
    exact zIU l l' l'' h1 h2
   ·have e3:zBa (.mk k n l) (.mk k'' n'' l'')<0:=by simp only[e2,ne_eq,not_false_eq_true,if_true]at h2;rw[zDh]at e1; rw[zHG]at *; omega
    have e4:zBa (.mk k n l) (.mk k'' n'' l'')≠0:=by omega
    simp only[e4,ne_eq,not_false_eq_true,if_true];exact e3
  ·simp only[e1,ne_eq,not_false_eq_true,if_true]at h1;have e3:zBa (.mk k n l) (.mk k'' n'' l'')<0:=by
    by_cases e2:zBa (.mk k' n' l') (.mk k'' n'' l'')=0
    ·rw[zDh]at e2; rw[zHG]at *; omega
    ·simp only[e2,ne_eq,not_false_eq_true,if_true]at h2;rw[zHG]at *; omega
   have e4:zBa (.mk k n l) (.mk k'' n'' l'')≠0:=by omega
   simp only[e4,ne_eq,not_false_eq_true,if_true];exact e3
theorem zIU:∀(a b c:List Val),zAu a b<0→zAu b c<0→zAu a c<0
 | [],[],_,h1,_=>by simp[zAu]at h1
 | [],_::_,[],_,h2=>by simp[zAu]at h2
 | [],_::_,_::_,_,_=>by simp[zAu]
 | _::_,[],_,h1,_=>by simp[zAu]at h1
 | _::_,_::_,[],_,h2=>by simp[zAu]at h2
 | a::l,b::l',c::l'',h1,h2=>by
  simp only[zAu]at *
  by_cases e1:zCd a b=0
  ·have e:=zDe a b e1;subst e;by_cases e2:zCd a c=0
   ·simp only[zEa,e2,ne_eq,not_true_eq_false,if_false]at *
    exact zIU l l' l'' h1 h2
   ·simp only[e2,ne_eq,not_false_eq_true,if_true]at *
    exact h2
  ·simp only[e1,ne_eq,not_false_eq_true,if_true]at h1;have e3:zCd a c<0:=by
    by_cases e2:zCd b c=0
    ·rw[←zDe b c e2]; exact h1
    ·simp only[e2,ne_eq,not_false_eq_true,if_true]at h2;exact zJP a b c h1 h2
   have e4:zCd a c≠0:=by omega
   simp only[e4,ne_eq,not_false_eq_true,if_true];exact e3
end
theorem zVy:Lin zCd:=⟨zEa,zDe,zL9,zJP⟩
theorem qBg {α : Type}(f : α→Int){d : α→α→Int}(h:Lin d):Lin fun x y=>orI [zA2 (f x) (f y),d x y]:=by
 have:=zVz (c:=fun x y=>zA2 (f x) (f y)) (d:=d) (fun x=>yK.2 rfl) (fun x y=>by rw[zCH,zF2]) (fun x y z=>by simp only[zCH]; omega)
  (fun x y z e=>by have:=yK.1 e; simp[this]) h.refl (fun x y _=>h.eq x y) (fun x y _=>h.swap x y) (fun x y z _ _=>h.trans x y z)
 have e:(fun x y=>orI [zA2 (f x) (f y),d x y])=fun x y=>if zA2 (f x) (f y)=0 then d x y else zA2 (f x) (f y):=by funext x y;rw[zKD,zNr]
 rw[e];exact this
def zQb (a b:Val):Int:=orI [zA2 (zB9 a) (zB9 b),zCd a b]
theorem zKz:Lin zQb:=qBg zB9 zVy
theorem zN6 (a b:Val):Ret prog 78 [.agg (zF a),.agg (zF b)] [] (int (zQb a b)) []:=by refine zI Tryz.func78 rfl qGg (rs:=[.slot 4]) (by kernel_rfl) ?_;unfold zY1;simp -implicitDefEqProofs [zF];refine qK (zIL a) (by simp[zF]) (by simp) ?_;simp -implicitDefEqProofs;refine qK (zIL b) (by simp[zF]) (by simp) ?_;simp -implicitDefEqProofs;refine qK (zBW (zB9 a) (zB9 b)) (by simp) (by simp) ?_;simp -implicitDefEqProofs;refine qK (zJ5 a b) (by simp[zF]) (by simp) ?_;simp -implicitDefEqProofs;refine qK (zVE [zA2 (zB9 a) (zB9 b),zCd a b]) (by simp) (by simp) ?_;simp -implicitDefEqProofs;exact zB 0 (by simp[zQb])
def qIw:Go.Shelf.Ren:=⟨fun | 6=>77 | 15=>121 | 14=>120 | 28=>165 | 29=>166 | 20=>157 | 21=>158 | 22=>159 | 23=>160 | 24=>161 | 25=>162 | 26=>163 | 27=>164 | 46=>181 | 49=>184 | 50=>185 | 57=>197 | 47=>182 | 48=>183 | n=>n,fun | 22=>44 | 24=>46 | 25=>54 | 3=>3 | 39=>181 | 0=>0 | 53=>222 | 55=>224 | 4=>4 | 46=>215 | 45=>214 | 50=>219 | 5=>5 | 9=>9 | 66=>241 | 70=>245 | 76=>256 | 77=>257 | n=>n,fun n=>n⟩
theorem zZg:Go.Proofs.SlLaysF0.n6 prog qIw:={
 mixed:=by kernel_rfl,
 f6:=⟨Tryz.f77.name,by decide,Tryz.func77.trans (congrArg some (by kernel_rfl))⟩,
 f14:=⟨Tryz.f120.name,by decide,Tryz.func120.trans (congrArg some (by kernel_rfl))⟩,
 f15:=Tryz.func121.trans (congrArg some (by kernel_rfl)),
 f20:=⟨Tryz.f157.name,by decide,Tryz.func157.trans (congrArg some (by kernel_rfl))⟩,
 f21:=⟨Tryz.f158.name,by decide,Tryz.func158.trans (congrArg some (by kernel_rfl))⟩,
 f22:=⟨Tryz.f159.name,by decide,Tryz.func159.trans (congrArg some (by kernel_rfl))⟩,
 f23:=⟨Tryz.f160.name,by decide,Tryz.func160.trans (congrArg some (by kernel_rfl))⟩,
 f24:=⟨Tryz.f161.name,by decide,Tryz.func161.trans (congrArg some (by kernel_rfl))⟩,
 f25:=⟨Tryz.f162.name,by decide,Tryz.func162.trans (congrArg some (by kernel_rfl))⟩,
 f26:=⟨Tryz.f163.name,by decide,Tryz.func163.trans (congrArg some (by kernel_rfl))⟩,
 f27:=⟨Tryz.f164.name,by decide,Tryz.func164.trans (congrArg some (by kernel_rfl))⟩,
 f28:=Tryz.func165.trans (congrArg some (by kernel_rfl)),
 f29:=Tryz.func166.trans (congrArg some (by kernel_rfl)),
 f46:=⟨Tryz.f181.name,by decide,Tryz.func181.trans (congrArg some (by kernel_rfl))⟩,
 f47:=Tryz.func182.trans (congrArg some (by kernel_rfl)),
 f48:=Tryz.func183.trans (congrArg some (by kernel_rfl)),
 f49:=⟨Tryz.f184.name,by decide,Tryz.func184.trans (congrArg some (by kernel_rfl))⟩,
 f50:=⟨Tryz.f185.name,by decide,Tryz.func185.trans (congrArg some (by kernel_rfl))⟩,
 f57:=⟨Tryz.f197.name,by decide,Tryz.func197.trans (congrArg some (by kernel_rfl))⟩,
 t0:=Tryz.underlying0,
 a0:=Tryz.isAgg0,
 z0:=Tryz.sizeOf0,
 v0:=Tryz.zeroValue0,
 t3:=Tryz.underlying3,
 a3:=Tryz.isAgg3,
 z3:=Tryz.sizeOf3,
 v3:=Tryz.zeroValue3,
 t4:=Tryz.underlying4,
 a4:=Tryz.isAgg4,
 z4:=Tryz.sizeOf4,
 v4:=Tryz.zeroValue4,
 t5:=Tryz.underlying5,
 a5:=Tryz.isAgg5,
 z5:=Tryz.sizeOf5,
 v5:=Tryz.zeroValue5,
 t9:=Tryz.underlying9,
 a9:=Tryz.isAgg9,
 z9:=Tryz.sizeOf9,
 v9:=Tryz.zeroValue9,
 t22:=Tryz.underlying44,
 a22:=Tryz.isAgg44,
 z22:=Tryz.sizeOf44,
 v22:=Tryz.zeroValue44,
 t25:=Tryz.underlying54,
 a25:=Tryz.isAgg54,
 z25:=Tryz.sizeOf54,
 v25:=Tryz.zeroValue54,
 t39:=Tryz.underlying181,
 a39:=Tryz.isAgg181,
 z39:=Tryz.sizeOf181,
 v39:=Tryz.zeroValue181,
 t45:=Tryz.underlying214,
 a45:=Tryz.isAgg214,
 z45:=Tryz.sizeOf214,
 v45:=Tryz.zeroValue214,
 t46:=Tryz.underlying215,
 a46:=Tryz.isAgg215,
 z46:=Tryz.sizeOf215,
 v46:=Tryz.zeroValue215,
 t50:=Tryz.underlying219,
 a50:=Tryz.isAgg219,
 z50:=Tryz.sizeOf219,
 v50:=Tryz.zeroValue219,
 t53:=Tryz.underlying222,
 a53:=Tryz.isAgg222,
 z53:=Tryz.sizeOf222,
 v53:=Tryz.zeroValue222,
 t55:=Tryz.underlying224,
 a55:=Tryz.isAgg224,
 z55:=Tryz.sizeOf224,
 v55:=Tryz.zeroValue224,
 t66:=Tryz.underlying241,
 a66:=Tryz.isAgg241,
 z66:=Tryz.sizeOf241,
 v66:=Tryz.zeroValue241,
 t70:=Tryz.underlying245,
 a70:=Tryz.isAgg245,
 z70:=Tryz.sizeOf245,
 v70:=Tryz.zeroValue245,
 t76:=Tryz.underlying256,
 a76:=Tryz.isAgg256,
 z76:=Tryz.sizeOf256,
 v76:=Tryz.zeroValue256,
 t77:=Tryz.underlying257,
 a77:=Tryz.isAgg257,
 z77:=Tryz.sizeOf257,
 v77:=Tryz.zeroValue257}
@[simp] theorem qG1:zA prog 77=true:=by kernel_rfl
theorem zWQ:∀args w,(callFunc 78 args).run prog w=.ok (.enter 78 args) w:=enters_of Tryz.func78 (by kernel_rfl) rfl
theorem qBQ:zMF prog 77 78 zF zQb :=
 zWd (k:=3) (fun _=>rfl) zKz.ord zN6 fun α _ enc hk h1 cf hO blk off cap d w hcmp hH hblk hsz =>
  Go.Proofs.AnyQ.slices_SortFunc zZg 3 Tryz.isAgg46 Tryz.sizeOf46 enc hk h1 cf hO 78 #[] blk off cap d w zWQ hcmp hH hblk hsz
theorem qHT:∀(p:Option Addr) (cap:Nat) (fv:Value) (w:World),Calls prog 77 #[.slice p 0 cap,fv] w fun e w'=>e=.returned (.tuple #[])∧w'=w :=
 fun p cap fv w=>Go.Proofs.AnyF.slices_SortFunc_none zZg p cap fv w
theorem zQa (l:List Val):l.flatMap zF=zK l:=by
 induction l with
 | nil=>simp
 | cons v l ih=>simp[ih,zF]
theorem zP3 (l:List Val)(hmx:l.length<4611686018427387904):Ret prog 77 [.row 0 l.length,.clo 78 [] []] [.row false 46 3 l.length (zK l)] (.tup []) [.row false 46 3 l.length (zK (zDJ zQb l))]:=by
 have:=zP4 (sz:=3) (by omega) (fun _=>rfl) (fun b=>by simp[zF]) zKz.ord 46 qBQ qHT l hmx
 simpa only[zQa] using this
end Go.Proofs.YtdnelmeboihpkaaGreatDoor
namespace Go.Proofs.YtdnelmeboihpkaaGreatDoor
open Go.Proofs Go.Abs
theorem zV7 (c:Int)(hc:c=0∨c=1∨c=2)(w:World):Calls prog 180 #[.int .u64 1,.int .u64 c] w fun e w'=>e=.returned (.tuple #[.int .u64 0,.int .u64 c])∧w'=w:=by
 rcases hc with rfl | rfl | rfl
 all_goals
  go_enter Tryz.func180,Tryz.ntmps180
  go_wp2
  go_ret2
  exact⟨by kernel_rfl,rfl⟩
theorem zQJ (c:Int)(hc:c=0∨c=1∨c=2)(w:World):Calls prog 156 #[.int .u64 1,.int .u64 c] w fun e w'=>e=.returned (.tuple #[.int .u64 0,.int .u64 c])∧w'=w:=by
 have h:=zV7 c hc;have hw:IntKind.u64.wrap c=c:=by rcases hc with rfl | rfl | rfl<;>rfl
 go_enter Tryz.func156,Tryz.ntmps156
 go_wp2_with (go_at_call 180; refine(h _).mono ?_; rintro e w' ⟨rfl,rfl⟩)
 go_ret2
 exact⟨rfl,rfl⟩
theorem u49:prog.underlying 161=some (.slice 44):=by kernel_rfl
theorem zXR:(prog.info? 44).map (·.size)=some 1:=by kernel_rfl
theorem i36:(prog.info? 44).map (fun i=>(i.size,i.bytes,i.zero))=some (1,24,some (.slice none 0 0)):=by kernel_rfl
theorem zQH (c:Nat)(hc:c≤2)(w:World):(Instr.makeSlice 161 (.int .i64 c) (.int .i64 c)).run prog w=.ok (.slice (some ⟨w.heap.size,0,none⟩) c c) (w.alloc (.cells (madeCells #[.slice none 0 0] c) 44)):=by obtain⟨i,hi,hh⟩:=jAe.1 i36;simp only[jB8]at hh;obtain⟨h1,h2,h3⟩:=hh;have:=run_make w 161 44 i (.slice none 0 0) u49 hi h3 .i64 .i64 c c (by omega) (by omega) (by rw[h2]; omega) (by omega);rw[this,h1];simp[Value.cells]
theorem zTC {P:Program}{ops:Array Oper}{o:Oper}{a:Act}{w w':World}{K:Act→World→Prop}{Q:Exit→Act→World→Prop}{E:Prop}
 (hg:o.guard=none)(d s:Operand)(t:TypeId)(hop:o.op=Op.call {callee:=Callee.builtin Builtin.copy,args:=#[d,s],argTypes:=#[t,t]})
 (vd vs:Value)(hd:a.eval d=vd)(hs:a.eval s=vs)(v:Value)(hrun:(Builtin.copy_ #[t,t] o.type #[vd,vs]).run P w=.ok v w')(hK:K (a.put o.dst v) w') :
 if Region.wanted o (yielded ops a.tmps)=true then Oper.wp P o a w K Q else E:=by
 have hw:Region.wanted o (yielded ops a.tmps)=true:=by simp[Region.wanted,hg]
 rw[if_pos hw];unfold Oper.wp;simp[execOp,hop,resolve,invoke,builtin,hs,hd,hrun,Result.andThen];exact hK
theorem zV1 (z:Value)(n:Nat):madeCells #[z] n=Array.replicate n z:=Array.ext (by simp[madeCells]) (by intro i h1 h2; simp[madeCells,Nat.mod_one])
theorem zIn (w:World)(cur cur':Array Value):(w.alloc (.cells cur 44)).setRow w.heap.size cur'=w.alloc (.cells cur' 44):=by unfold World.setRow World.alloc;simp only[World.mk.injEq,and_true];apply Array.ext_getElem?;intro k;simp only[Array.getElem?_modify,Array.getElem?_push];split<;>split<;>simp_all
theorem zQU (b o cap:Nat)(v:Value)(w:World)(hv:w.cell? ⟨b,o,none⟩=some v) :
 Calls prog 119 #[.slice (some ⟨b,o,none⟩) 1 cap,.int .i64 0] w fun e w'=>e=.returned (.slice (some ⟨w.heap.size,0,none⟩) 0 0)∧w'=w.alloc (.cells #[] 44):=by
 have h:=zQJ 0 (by simp);have hm:∀w:World,(Instr.makeSlice 161 (.int .i64 0) (.int .i64 0)).run prog w=.ok (.slice (some ⟨w.heap.size,0,none⟩) 0 0) (w.alloc (.cells #[] 44)):=fun w=>(zQH 0 (by decide) w).trans (by rw[zV1]; rfl)
 go_enter Tryz.func119,Tryz.ntmps119
 go_wp2_with (go_at_call 156; refine(h _).mono ?_; rintro e w' ⟨rfl,rfl⟩)
 have hcp:=run_copy_none (P:=prog) (w'.alloc (.cells #[] 44)) 161 161 3 44 (some ⟨w'.heap.size,0,none⟩) (some ⟨b,o,none⟩) 0 0 1 cap u49 zXR (by rfl)
 go_wp2
 rw[hcp]
 go_wp2
 refine wp_loop_rounds 1 ?_;simp only[Code.rounds]
 go_wp2
 go_ret
 exact⟨rfl,rfl⟩
theorem zQV (b o cap:Nat)(v:Value)(w:World)(hv:w.cell? ⟨b,o,none⟩=some v)(h1:v.oneCell'=true)(hb:b<w.heap.size) :
 Calls prog 119 #[.slice (some ⟨b,o,none⟩) 1 cap,.int .i64 1] w fun e w'=>e=.returned (.slice (some ⟨w.heap.size,0,none⟩) 1 1)∧w'=w.alloc (.cells #[v] 44):=by
 have h:=zQJ 1 (by simp);have hm:∀w:World,(Instr.makeSlice 161 (.int .i64 1) (.int .i64 1)).run prog w=.ok (.slice (some ⟨w.heap.size,0,none⟩) 1 1) (w.alloc (.cells #[.slice none 0 0] 44)):=fun w=>(zQH 1 (by decide) w).trans (by rw[zV1]; rfl)
 go_enter Tryz.func119,Tryz.ntmps119
 go_wp2_with (go_at_call 156; refine(h _).mono ?_; rintro e w' ⟨rfl,rfl⟩)
 have hcp:=run_copy_row (P:=prog) (w'.alloc (.cells #[.slice none 0 0] 44)) 161 161 3 44 w'.heap.size 0 1 1 ⟨b,o,none⟩ 1 cap #[.slice none 0 0] 44 [v] u49 zXR (heap_alloc_new _ _) (by rfl)
  (by
   intro j u hj;cases j with
   | succ j=>simp at hj
   | zero =>
    simp at hj;subst hj;rw[←hv];exact World.cell?_alloc_lt _ _ (a:=⟨b,o+0,none⟩) hb) (by simp) (by simpa using h1)
 rw[zIn]at hcp;simp only[List.take_zero,jBj,jAl,jBx,List.drop_succ_cons,jAq,List.drop_nil,jCd]at hcp
 go_wp2
 rw[hcp]
 go_wp2
 refine wp_loop_rounds 1 ?_;simp only[Code.rounds]
 go_wp2
 go_ret
 exact⟨rfl,rfl⟩
theorem zQW (b o cap:Nat)(v:Value)(w:World)(hv:w.cell? ⟨b,o,none⟩=some v)(h1:v.oneCell'=true)(hb:b<w.heap.size) :
 Calls prog 119 #[.slice (some ⟨b,o,none⟩) 1 cap,.int .i64 2] w fun e w'=>e=.returned (.slice (some ⟨w.heap.size,0,none⟩) 2 2)∧w'=(w.alloc (.cells #[v,v] 44)).drew:=by
 have h:=zQJ 2 (by simp);have hm:∀w:World,(Instr.makeSlice 161 (.int .i64 2) (.int .i64 2)).run prog w=.ok (.slice (some ⟨w.heap.size,0,none⟩) 2 2) (w.alloc (.cells #[.slice none 0 0,.slice none 0 0] 44)):=fun w=>(zQH 2 (by decide) w).trans (by rw[zV1]; rfl)
 go_enter Tryz.func119,Tryz.ntmps119
 go_wp2_with (go_at_call 156; refine(h _).mono ?_; rintro e w' ⟨rfl,rfl⟩)
 have hcp:=run_copy_row (P:=prog) (w'.alloc (.cells #[.slice none 0 0,.slice none 0 0] 44)) 161 161 3 44 w'.heap.size 0 2 2 ⟨b,o,none⟩ 1 cap #[.slice none 0 0,.slice none 0 0] 44 [v] u49 zXR (heap_alloc_new _ _) (by rfl)
  (by
   intro j u hj;cases j with
   | succ j=>simp at hj
   | zero =>
    simp at hj;subst hj;rw[←hv];exact World.cell?_alloc_lt _ _ (a:=⟨b,o+0,none⟩) hb) (by simp) (by simpa using h1)
 rw[zIn]at hcp;simp only[List.take_zero,jBj,jAl,jBx,List.drop_succ_cons,List.drop_zero,jAq,jB0]at hcp
 go_wp2
 rw[hcp]
 go_wp2
 refine wp_loop_rounds 2 ?_;simp only[Code.rounds]
 go_wp2
 have hcp2:=run_copy_row (P:=prog) (w'.alloc (.cells #[v,.slice none 0 0] 44)).drew 161 161 3 44 w'.heap.size 1 1 1 ⟨w'.heap.size,0,none⟩ 1 2 #[v,.slice none 0 0] 44 [v] u49 zXR (heap_alloc_new _ _) (by rfl)
  (by
   intro j u hj;cases j with
   | succ j=>simp at hj
   | zero =>
    simp at hj;subst hj;exact World.cell?_alloc_new _ _ 44 0) (by simp) (by simpa using h1)
 have e:(w'.alloc (.cells #[v,.slice none 0 0] 44)).drew.setRow w'.heap.size (List.take 1 #[v,.slice none 0 0].toList++[v]++List.drop (1+[v].length) #[v,.slice none 0 0].toList).toArray=(w'.alloc (.cells #[v,v] 44)).drew:=by show ((w'.alloc (.cells #[v,.slice none 0 0] 44)).setRow w'.heap.size _).drew=_;rw[zIn];rfl
 rw[e]at hcp2
 go_region_law (refine zTC rfl (.tmp 41) (.tmp 44) 161 rfl _ _ rfl rfl _ hcp2 ?_)
 go_wp2
 go_ret
 exact⟨rfl,rfl⟩
theorem zHP {H:Mem}{L:List LI} {σ : St}{w:World}(hs:RelSt H L σ w):Nxt H L w H L σ w.drew :=
 ⟨hs.heap_eq rfl,⟨rfl,rfl,rfl,jA _,fun _ _ _=>rfl,HLe.refl _,fun _ _ _ h=>.inl h,jC6 _,fun _ _ h=>h⟩,LLe.refl _,fun _ h=>.inl h⟩
theorem zFS {H:Mem}{L:List LI}{c:A}{v:Value}(h:Rel H L c v):∀n,zQ H L (List.replicate n c) (List.replicate n v)
 | 0=>jF
 | n+1=>qH h (zFS h n)
theorem zT4 (n:Nat)(hn:n≤2)(c:A):Ret prog 119 [.sl 1 [c],int n] [] (.sl n (List.replicate n c)) []:=by
 intro H L w vs hs hvs;obtain⟨x,t,rfl,hx,ht⟩:=zS hvs;obtain⟨y,t,rfl,hy,ht⟩:=zS ht;obtain rfl:=qY ht;simp only[int,Rel]at hx hy;subst hy;obtain⟨a,cap,rfl,h1,h2,h3⟩:=hx;rcases h3 with h3 | ⟨b,o,us,rfl,hc,ho,hat⟩
 ·omega
 obtain⟨v,t,rfl,hv,ht⟩:=zS hc;obtain rfl:=qY ht;have hp:=hs.pers b o v (by simpa using hat 0 v rfl);have h1v:v.oneCell'=true:=ho v (by simp);have hb:=World.block_lt_of_cell? w _ hp;have key:Calls prog 119 #[.slice (some ⟨b,o,none⟩) 1 cap,.int .i64 n] w fun e w'=>e=.returned (.slice (some ⟨w.heap.size,0,none⟩) n n) ∧
  (w'=w.alloc (.cells (List.replicate n v).toArray 44)∨w'=(w.alloc (.cells (List.replicate n v).toArray 44)).drew):=by
  have h:n=0∨n=1∨n=2:=by omega
  rcases h with rfl | rfl | rfl
  ·exact(zQU b o cap v w hp).mono fun e w' h=>⟨h.1,.inl h.2⟩
  ·exact(zQV b o cap v w hp h1v hb).mono fun e w' h=>⟨h.1,.inl h.2⟩
  ·exact(zQW b o cap v w hp h1v hb).mono fun e w' h=>⟨h.1,.inr h.2⟩
 refine key.mono fun e w' h=>?_
 obtain⟨rfl,hw⟩:=h;obtain⟨hn1,hn2⟩:=zJj hs (List.replicate n v) 44;refine⟨.ret (.sl n (List.replicate n c)),[],zLo H w.heap.size (List.replicate n v),L,⟨_,rfl,?_⟩,?_,rfl,rfl⟩
 ·simp only[Rel];refine⟨_,n,rfl,jA _,by simp[maxLen]; omega,.inr ⟨w.heap.size,0,List.replicate n v,rfl,?_,fun u hu=>?_,hn2⟩⟩
  ·have hv':=Rel.mono hn1.step.hle (LLe.refl _) _ hv;exact zFS hv' n
  ·rw[(jD.1 hu).2]; exact h1v
 ·rcases hw with rfl | rfl
  ·exact hn1
  ·exact hn1.trans (zHP hn1.st)
end Go.Proofs.YtdnelmeboihpkaaGreatDoor
namespace Go.Proofs.YtdnelmeboihpkaaGreatDoor
open Go.Abs
def zPM:K:=(K.ops [D 198 4 1,L 199 198 1,J 200 15 31,kd 201 41 31 1 kz0 [(0,31,(kt 200))],kP 202 41 31 352 199 201,D 203 4 1,S 203 202 1])
def zPL:K:=(Z (K.dops [(0,0,M 147 3),(1,0,D 148 4 1),(2,0,L 149 148 1),(3,0,M 150 13),(4,0,kX 151 149 150 31),(5,0,J 152 151 31),(6,0,D 153 4 1),(7,0,L 154 153 1),(8,0,M 155 12),(9,0,kX 156 154 155 31),(10,0,J 157 156 31),(11,0,D 158 14 0),(12,0,J 159 158 3),(13,4,kC 160 67 [(kt 147),(kt 152),(kt 157),(kt 159)]),(14,2,D 161 15 14),(15,0,S 161 160 15)]) (G [M 162 3,kC 163 65 [(kt 162),(kc 5)],kQi 164 163 1 false] (Y 164 (Z (K.wk (K.dops [(0,0,M 165 3),(1,0,kb 166 kz2 [(0,1,(kc 1))]),(2,0,D 167 4 1),(3,0,L 168 167 1),(4,0,M 169 12),(5,0,kX 170 168 169 31),(6,0,J 171 170 31),(7,0,D 172 14 0),(8,0,J 173 172 3),(9,11,kC 174 68 [(kt 165),(kt 166),(kt 171),(kt 173),(kc 1)]),(10,307,⟨none,.alr (some 16) 7 kz1⟩),(11,0,S 16 174 15)])) (Z (K.wk (K.dops [(0,0,M 175 3),(1,0,D 176 4 1),(2,0,L 177 176 1),(3,0,M 178 13),(4,0,kX 179 177 178 31),(5,0,J 180 179 31),(6,0,D 181 4 1),(7,0,L 182 181 1),(8,0,M 183 12),(9,0,kX 184 182 183 31),(10,0,J 185 184 31),(11,0,D 186 14 0),(12,0,J 187 186 3),(13,11,kC 188 67 [(kt 175),(kt 180),(kt 185),(kt 187)]),(14,308,⟨none,.alr (some 17) 8 kz1⟩),(15,0,S 17 188 15)])) (K.ops [M 189 3,kb 190 [ki,ki,ki] [],J 191 16 15,D 192 15 14,J 193 192 15,J 194 17 15,kd 195 39 15 3 kz4 [(0,15,(kt 191)),(15,15,(kt 193)),(30,15,(kt 194))],kC 196 66 [(kt 189),(kc 5),(kc 0),(kt 190),(kt 195)],D 197 15 14,S 197 196 15]))) ks)))
def zPK:K:=(Z (G [M 134 12,M 135 13,kQ 136 134 135 false,M 137 136,T 137 true (M 138 3),T 137 true (kC 139 65 [(kt 138),(kc 2)]),T 137 true (kQi 140 139 1 false),kPf 141 137 140] (Y 141 (K.ops [M 142 3,D 143 14 0,J 144 143 3,kC 145 66 [(kt 142),(kc 2),(kc 0),(kt 144),(.const kl)],D 146 15 14,S 146 145 15]) (K.wk zPL))) (K.wk zPM))
def zMC:K:=(Z (K.wk (K.dops [(0,0,M 105 11),(1,0,⟨none,.bin (some 106) .add (kc 30) (kt 105)⟩),(2,1,kC 107 64 [(kt 106)]),(3,0,D 108 4 1),(4,0,L 109 108 1),(5,0,M 110 12),(6,0,kX 111 109 110 31),(7,0,D 112 111 0),(8,0,J 113 112 3),(9,1,kC 114 62 [(kt 113)]),(10,0,⟨none,.build (some 115) kz5 [(0,3,(kt 107)),(3,1,(.const (.string ⟨#[111,108,100]⟩))),(4,5,(kt 114))]⟩),(11,305,⟨none,.alr (some 14) 5 kz5⟩),(12,0,S 14 115 11)])) (Z (K.wk (K.dops [(0,0,M 116 11),(1,0,⟨none,.bin (some 117) .add (kc 6) (kt 116)⟩),(2,1,kC 118 64 [(kt 117)]),(3,1,kC 119 64 [(kc 0)]),(4,0,⟨none,.bslice (some 120) 9 1 7 [(.string ⟨#[]⟩),(.string ⟨#[]⟩),(.string ⟨#[]⟩),(.string ⟨#[]⟩),(.string ⟨#[]⟩),(.string ⟨#[]⟩),(.string ⟨#[]⟩)] [(0,1,(.const (.string ⟨#[99,48]⟩))),(1,1,(.const (.string ⟨#[99,49]⟩))),(2,1,(.const (.string ⟨#[99,50]⟩))),(3,1,(.const (.string ⟨#[99,51]⟩))),(4,1,(.const (.string ⟨#[99,52]⟩))),(5,1,(.const (.string ⟨#[99,53]⟩))),(6,1,(.const (.string ⟨#[99,54]⟩)))]⟩),(5,0,M 121 11),(6,0,kX 122 120 121 1),(7,0,L 123 122 1),(8,0,J 124 14 11),(9,0,kd 125 85 11 1 kz5 [(0,11,(kt 124))]),(10,0,D 126 4 1),(11,0,L 127 126 1),(12,0,M 128 13),(13,0,kX 129 127 128 31),(14,0,D 130 129 0),(15,0,J 131 130 3),(16,1,kC 132 62 [(kt 131)]),(17,0,kb 133 kz0 [(0,3,(kt 118)),(3,1,(kc 5)),(4,3,(kt 119)),(7,1,(kt 123)),(8,1,(kt 125)),(9,5,(kt 132))]),(18,306,⟨none,.alr (some 15) 6 kz0⟩),(19,0,S 15 133 31)])) (K.wk zPK)))
def zPJ:K:=(Z (G [kMi 18 0] (K.block 6 (K.loop (Z (G [M 204 18,D 205 4 1,L 206 205 1,kN 207 206,kB 208 204 207 .lss] (Y 208 ks (K.exit 6))) (Z (K.block 7 (K.dops [(0,1,D 211 4 0),(1,1,L 212 211 1),(2,0,D 213 4 0),(3,0,L 214 213 1),(4,0,kXi 215 214 6 0),(5,0,D 216 215 5),(6,0,L 217 216 1),(7,0,D 218 4 1),(8,0,L 219 218 1),(9,0,M 220 18),(10,0,kX 221 219 220 31),(11,0,D 222 221 0),(12,0,J 223 222 3),(13,0,kd 224 31 3 1 [ki,ki,ki] [(0,3,(kt 223))]),(14,0,kP 225 31 3 24 217 224),(15,0,kXi 226 212 6 0),(16,0,D 227 226 5),(17,0,S 227 225 1)])) (K.ops [M 209 18,kBi 210 209 1 .add,M 18 210])))))) (G [J 228 4 2,S 2 228 2] kr))
def zPI:K:=(G [M 80 3,kC 81 65 [(kt 80),(kc 8)],M 10 81] (Z (G [kMi 11 0] (K.block 4 (K.loop (Z (G [M 82 11,M 83 10,kB 84 82 83 .lss] (Y 84 ks (K.exit 4))) (Z (K.block 5 (G [M 87 3,M 88 5,kC 89 65 [(kt 87),(kt 88)],M 12 89] (G [M 90 3,M 91 5,kC 92 65 [(kt 90),(kt 91)],M 13 92] (Z (G [M 93 12,M 94 13,kQ 95 93 94 false,M 96 95,T 96 true (M 97 3),T 96 true (kC 98 65 [(kt 97),(kc 3)]),T 96 true (kBi 99 98 0 .gtr),kPf 100 96 99] (Y 100 (K.ops [M 101 12,kBi 102 101 1 .add,M 103 5,kB 104 102 103 .rem,M 13 104]) ks)) (K.wk zMC))))) (K.wk (K.ops [M 85 11,kBi 86 85 1 .add,M 11 86]))))))) (K.wk zPJ)))
def zYv:K:=G [kZ 2 [kl,kl]] (G [M 19 0,kb 20 [kl,ki,ki] [(0,1,(kt 19)),(2,1,(kc 40))],kO 21 20,M 3 21] (G [kC 22 64 [(kc 0)],⟨none,.build (some 23) kz9 [(0,3,(kt 22)),(3,1,(.const (.string ⟨#[99,111,114,101]⟩)))]⟩,⟨none,.brow (some 24) 112 6 1 kz9 [(0,6,(kt 23))]⟩,kb 25 [kl,kl] [(0,1,(kt 24))],kZ 4 [kl,kl],S 4 25 2] (G [M 26 3,kC 27 65 [(kt 26),(kc 3)],⟨none,.bin (some 28) .add (kc 2) (kt 27)⟩,M 5 28] (Z (G [kMi 6 0] (K.block 0 (K.loop (Z (G [M 29 6,M 30 5,kB 31 29 30 .lss] (Y 31 ks (K.exit 0))) (Z (K.block 1 (Z (K.dops [(0,0,M 34 6),(1,0,⟨none,.bin (some 35) .add (kc 1) (kt 34)⟩),(2,1,kC 36 64 [(kt 35)]),(3,1,kC 37 64 [(kc 0)]),(4,0,⟨none,.bslice (some 38) 9 1 4 [(.string ⟨#[]⟩),(.string ⟨#[]⟩),(.string ⟨#[]⟩),(.string ⟨#[]⟩)] [(0,1,(.const (.string ⟨#[65]⟩))),(1,1,(.const (.string ⟨#[66]⟩))),(2,1,(.const (.string ⟨#[67]⟩))),(3,1,(.const (.string ⟨#[68]⟩)))]⟩),(5,0,M 39 6),(6,1,kX 40 38 39 1),(7,1,L 41 40 1),(8,0,kb 42 kz0 [(0,3,(kt 36)),(3,1,(kc 0)),(4,3,(kt 37)),(7,1,(kt 41))]),(9,0,kZ 7 kz0),(10,0,S 7 42 31)]) (G [M 43 3,kC 44 65 [(kt 43),(kc 2)],⟨none,.bin (some 45) .add (kc 1) (kt 44)⟩,M 8 45] (Z (G [kMi 9 0] (K.block 2 (K.loop (Z (G [M 46 9,M 47 8,kB 48 46 47 .lss] (Y 48 ks (K.exit 2))) (Z (K.block 3 (K.dops [(0,2,D 51 7 8),(1,2002,L 52 51 1),(2,0,M 53 6),(3,0,⟨none,.bin (some 54) .mul (kc 2) (kt 53)⟩),(4,0,⟨none,.bin (some 55) .add (kc 20) (kt 54)⟩),(5,0,
 M 56 9),(6,0,kB 57 55 56 .add),(7,0,kC 58 64 [(kt 57)]),(8,0,⟨none,.bslice (some 59) 9 1 2 [(.string ⟨#[]⟩),(.string ⟨#[]⟩)] [(0,1,(.const (.string ⟨#[120]⟩))),(1,1,(.const (.string ⟨#[121]⟩)))]⟩),(9,0,M 60 9),(10,2,kX 61 59 60 1),(11,2,L 62 61 1),(12,0,M 63 9),(13,0,kd 64 3 1 3 [ki,ki,ki] [(0,1,(kc 0)),(1,1,(kc 1)),(2,1,(kc 0))]),(14,0,M 65 3),(15,1002,kC 66 65 [(kt 65),(kc 3)]),(16,0,kX 67 64 66 1),(17,0,L 68 67 1),(18,0,kb 69 kz2 [(0,1,(kt 68))]),(19,0,kb 70 kz5 [(0,3,(kt 58)),(3,1,(kt 62)),(10,1,(kt 63)),(4,5,(kt 69))]),(20,0,kd 71 85 11 1 kz5 [(0,11,(kt 70))]),(21,0,kP 72 85 11 112 52 71),(22,2,D 73 7 8),(23,0,S 73 72 1)])) (K.ops [M 49 9,kBi 50 49 1 .add,M 9 50])))))) (K.wk (K.ops [D 74 4 1,L 75 74 1,J 76 7 31,kd 77 41 31 1 kz0 [(0,31,(kt 76))],kP 78 41 31 352 75 77,D 79 4 1,S 79 78 1])))))) (K.ops [M 32 6,kBi 33 32 1 .add,M 6 33])))))) (K.wk zPI)))))
def qHe:Nat→Option (List (Nat×Nat)):=fun r=>match r with | 12=>some [(0,2),(1,2002),(2,0),(3,0),(4,0),(5,0),(6,0),(7,0),(8,0),(9,0),(10,2),(11,2),(12,0),(13,0),(14,0),(15,1002),(16,0),(17,0),(18,0),(19,0),(20,0),(21,0),(22,2),(23,0)] | 22=>some [(0,0),(1,0),(2,1),(3,0),(4,0),(5,0),(6,0),(7,0),(8,0),(9,1),(10,0),(11,305),(12,0)] | 23=>some [(0,0),(1,0),(2,1),(3,1),(4,0),(5,0),(6,0),(7,0),(8,0),(9,0),(10,0),(11,0),(12,0),(13,0),(14,0),(15,0),(16,1),(17,0),(18,306),(19,0)] | 26=>some [(0,0),(1,0),(2,0),(3,0),(4,0),(5,0),(6,0),(7,0),(8,0),(9,0),(10,0),(11,0),(12,0),(13,4),(14,2),(15,0)] | 28=>some [(0,0),(1,0),(2,0),(3,0),(4,0),(5,0),(6,0),(7,0),(8,0),(9,11),(10,307),(11,0)] | 29=>some [(0,0),(1,0),(2,0),(3,0),(4,0),(5,0),(6,0),(7,0),(8,0),(9,0),(10,0),(11,0),(12,0),(13,11),(14,308),(15,0)] | _=>none
theorem qFX:qE prog Tryz.f28.ntmps qHe (Tryz.f28.body.getD .skip)=some zYv.erase:=by kernel_rfl
@[simp] theorem qJ8:zA prog 28=true:=by kernel_rfl
section
variable {l:List Int}
def zCL:List A:=[int (idR 0).a,int (idR 0).b,int (idR 0).c,.lit (.string ⟨#[99,111,114,101]⟩),.nil,.nil]
def stG (l:List Int)(m:Gm)(Ds:List Dfn):St :=
 [.box [.nil,.nil],.box (gB l m),.row false 112 6 1 zCL,.box [.row 2 1,.row 4 Ds.length],.row false 41 31 Ds.length (qB Ds)]
theorem zLS (a b:Dfn)(s:Id)(m:Gm)(h:b.slots.length≤6):Gst m (zBD l a b s m).2 400:=by
 unfold zBD;have h1:=zJ7 (l:=l) b a s m h;split
 ·have h2:=zBG l a s 1 1 (zEI l b a s m).2.tick;have h3:=zJ7 (l:=l) b a s (zAC l a s 1 1 (zEI l b a s m).2.tick).2 h;exact((((h1.trans (zY _) (jAf _)).trans h2 (jAf _)).trans h3 (jAf _)).trans (zBF _ _ _ _ _) (by simp[gC]))
 ·exact h1.trans (zY _) (by omega)
def zB6 (l:List Int)(x y:Nat)(A B:Dfn)(s:Id)(m:Gm):Exp×Gm:=if x=y then (if gN l m 2=1 then yN m.tick 2 0 s [] else zBD l A B s m.tick) else zBD l A B s m
theorem zQq (x y:Nat)(a b:Dfn)(s:Id)(m:Gm)(h:b.slots.length≤6):Gst m (zB6 l x y a b s m).2 401:=by
 unfold zB6;split
 ·split
  ·exact(zY m).trans (zBF _ _ _ _ _) (by omega)
  ·exact(zY m).trans (zLS a b s _ h) (by omega)
 ·exact(zLS a b s _ h).mono (by omega)
theorem zR4 {Ds:List Dfn}{k:Nat}(h:k<Ds.length):∃a:List A,zG Ds[k]=a∧(∀rf g,vwL rf g a=a)∧qV a=a∧(∀n,zBe n a=true)∧(qB Ds).drop (k*31)=a++qB (Ds.drop (k+1))∧(∀R:List A,List.take 31 (a++R)=a)∧k*31+31≤Ds.length*31 :=
 ⟨_,rfl,fun rf g=>(zAy _).2 _ _,(zAy _).1,fun n=>(zAy _).bnd n,zA5 h,fun R=>List.take_left' (zUE _),by omega⟩
theorem zVH (hl:∀x∈l,w64 x=x)(Q:Ex→Env→St→Prop)(m:Gm)(hok:m.Ok 450)(Ds:List Dfn)(x y i:Nat)(hx:x<Ds.length)(hy:y<Ds.length)(hD:Ds.length≤100)(many cv:Int)(u:Slt)(d:Dfn)(hd:d.body=Exp.zero)
 (h1:Ds[x].slots.length≤6)(h2:Ds[y].slots.length≤6)(hf:∀u∈Ds[y].slots,u.typ=tK u.typ.k∧(u.typ.k=0∨u.typ.k=1))
 (hQ:∀env' σ',zA4 0 (qU [(2,.ptr 0 0),(3,.ptr 1 0),(4,.ptr 3 0),(5,int many),(10,int cv),(11,int i),(15,.ptr 6 0)]) (stG l (zBD l Ds[x] Ds[y] u.id m).2 Ds++[.box (yG u),.box (zG {d with body:=(zBD l Ds[x] Ds[y] u.id m).1})]) env' σ'→Q .norm env' σ') :
 wpK prog 0 zPL Q (qU [(2,.ptr 0 0),(3,.ptr 1 0),(4,.ptr 3 0),(5,int many),(10,int cv),(11,int i),(12,int x),(13,int y),(14,.ptr 5 0),(15,.ptr 6 0)])
  (stG l m Ds++[.box (yG u),.box (zG d)]):=by
 obtain⟨r,hr⟩:∃r,r=zEI l Ds[y] Ds[x] u.id m:=⟨_,rfl⟩;have g1:=zLK hl Ds[y] Ds[x] u.id h2 h1 hf m (hok.mono (by omega));have s1:=zJ7 (l:=l) Ds[y] Ds[x] u.id m h2;rw[←hr]at g1 s1;have n1:=zBq (l:=l) r.2 5 (by omega) (hok.adv s1 (by omega));obtain⟨ax,eax,vx,nx,bx,dx,tx,lx⟩:=zR4 hx;obtain⟨ay,eay,vy,ny,by_,dy,ty,ly⟩:=zR4 hy;rw[eax,eay]at g1;have hne:Ds≠[]:=fun e=>by rw[e]at hx; simp at hx
 unfold zPL;simp -implicitDefEqProofs [stG,gB,yG,dx,dy,tx,ty,lx,ly,hx,hy,hne];refine zAK g1 [1] (by decide) (by simp[gS,gB]) (by simp[vx,vy,zC]) ?_;simp -implicitDefEqProofs [gS,gB,zG];refine jJ n1 [1] (by decide) (by simp[gS,gB]) (by simp) ?_;have hrec:∀q:Exp×Gm,zBD l Ds[x] Ds[y] u.id m=q→∀E S,zA4 0 (qU [(2,.ptr 0 0),(3,.ptr 1 0),(4,.ptr 3 0),(5,int many),(10,int cv),(11,int i),(15,.ptr 6 0)]) (stG l q.2 Ds++[.box (yG u),.box (zG {d with body:=q.1})]) E S→Q .norm E S:=fun q hq E S hw=>hQ E S (by rw[hq]; exact hw)
 by_cases h5:gN l r.2 5=1
 ·have st1:Gst m r.2.tick 171:=s1.trans (zY _) (by omega);obtain⟨c,hc⟩:∃c,c=zAC l Ds[x] u.id 1 1 r.2.tick:=⟨_,rfl⟩;have c1:=zHR hl Ds[x] u.id h1 1 (by omega) r.2.tick 1 (.inr rfl) (hok.adv st1 (by simp[gC]));have s2:=zBG l Ds[x] u.id 1 1 r.2.tick;rw[←hc]at c1 s2;have st2:Gst m c.2 182:=st1.trans s2 (by simp[gC]);obtain⟨r2,hr2⟩:∃r2,r2=zEI l Ds[y] Ds[x] u.id c.2:=⟨_,rfl⟩;have g2:=zLK hl Ds[y] Ds[x] u.id h2 h1 hf c.2 (hok.adv st2 (by omega));have s3:=zJ7 (l:=l) Ds[y] Ds[x] u.id c.2 h2;rw[←hr2]at g2 s3;have n2:=zAL (l:=l) r2.2 5 0 Id.zero [c.1,r.1,r2.1] (hok.adv (st2.trans s3 (jAf _)) (by omega));rw[eax,eay]at g2;rw[eax]at c1;have hq:zBD l Ds[x] Ds[y] u.id m=yN r2.2 5 0 Id.zero [c.1,r.1,r2.1]:=by simp only[zBD,←hr,if_pos h5,←hc,←hr2]
  simp -implicitDefEqProofs [gS,gB,h5];refine⟨_,_,zAe 1,?_⟩;simp -implicitDefEqProofs [List.replicate,dx,dy,tx,ty,lx,ly,hx,hy,hne];refine zR1 c1 [1] (by decide) (by simp[gS]) (by simp[gS]) (by simp[gS,gB]) (by simp[vx,zC,zU,tK,zAd,Typ.k,Typ.id,Typ.kids]) (by simp[gS]) ?_;simp -implicitDefEqProofs [gS,gB];refine⟨_,_,zAe 1,?_⟩;simp -implicitDefEqProofs [List.replicate,dx,dy,tx,ty,lx,ly,hx,hy,hne];refine zR1 g2 [1] (by decide) (by simp[gS]) (by simp[gS]) (by simp[gS,gB]) (by simp[vx,vy,zC]) (by simp[gS]) ?_;simp -implicitDefEqProofs [gS,gB,zT];refine jJ n2 [1] (by decide) (by simp[gS,gB]) (by simp[zC,Id.zero,zW,zT]) ?_;simp -implicitDefEqProofs [gS,gB,zT];exact hrec _ hq _ _ (zO [0,1,2,3,4,5,6] 0 (by decide) (by simp) (by simp[stG,gB,zCL,yG,zG,zT]) (by simp))
 ·have hq:zBD l Ds[x] Ds[y] u.id m=(r.1,r.2.tick):=by simp only[zBD,←hr,if_neg h5]
  simp -implicitDefEqProofs [gS,gB,h5];exact hrec _ hq _ _ (zO [0,1,2,3,4,5,6] 0 (by decide) (by simp) (by simp[stG,gB,zCL,yG,zG,zT]) (by simp))
theorem zQN (Q:Ex→Env→St→Prop)(m:Gm)(Ds:List Dfn)(i:Nat)(hD:Ds.length≤100)(many cv:Int)(u:Slt)(d:Dfn)
 (hQ:∀env' σ',zA4 0 (qU [(2,.ptr 0 0),(3,.ptr 1 0),(4,.ptr 3 0),(5,int many),(10,int cv),(11,int i)]) (stG l m (Ds++[d])) env' σ'→Q .norm env' σ') :
 wpK prog 0 zPM Q (qU [(2,.ptr 0 0),(3,.ptr 1 0),(4,.ptr 3 0),(5,int many),(10,int cv),(11,int i),(15,.ptr 6 0)]) (stG l m Ds++[.box (yG u),.box (zG d)]):=by
 unfold zPM;simp -implicitDefEqProofs [stG,gB,zG];refine⟨⟨by simp[maxLen]; omega,by omega⟩,?_⟩;exact hQ _ _ (zO [0,1,2,3,4] 0 (by decide) (by simp) (by simp[stG,gB,zCL,zG5,zFy,zG]) (by simp))
theorem qB7 (hl:∀x∈l,w64 x=x)(Q:Ex→Env→St→Prop)(m:Gm)(hok:m.Ok 500)(Ds:List Dfn)(x y i:Nat)(hx:x<Ds.length)(hy:y<Ds.length)(hD:Ds.length≤100)(many cv:Int)(u:Slt)(d:Dfn)(hd:d.body=Exp.zero)
 (h1:Ds[x].slots.length≤6)(h2:Ds[y].slots.length≤6)(hf:∀u∈Ds[y].slots,u.typ=tK u.typ.k∧(u.typ.k=0∨u.typ.k=1))
 (hQ:∀env' σ',zA4 0 (qU [(2,.ptr 0 0),(3,.ptr 1 0),(4,.ptr 3 0),(5,int many),(10,int cv),(11,int i)]) (stG l (zB6 l x y Ds[x] Ds[y] u.id m).2 (Ds++[{d with body:=(zB6 l x y Ds[x] Ds[y] u.id m).1}])) env' σ'→Q .norm env' σ') :
 wpK prog 0 zPK Q (qU [(2,.ptr 0 0),(3,.ptr 1 0),(4,.ptr 3 0),(5,int many),(10,int cv),(11,int i),(12,int x),(13,int y),(14,.ptr 5 0),(15,.ptr 6 0)])
  (stG l m Ds++[.box (yG u),.box (zG d)]):=by
 have hrec:∀q:Exp×Gm,zB6 l x y Ds[x] Ds[y] u.id m=q→∀E S,zA4 0 (qU [(2,.ptr 0 0),(3,.ptr 1 0),(4,.ptr 3 0),(5,int many),(10,int cv),(11,int i)]) (stG l q.2 (Ds++[{d with body:=q.1}])) E S→Q .norm E S:=fun q hq E S hw=>hQ E S (by rw[hq]; exact hw)
 unfold zPK;by_cases hxy:x=y
 ·have n1:=zBq (l:=l) m 2 (by omega) (hok.mono (by omega));have hxy':(x:Int)=y:=by omega
  simp -implicitDefEqProofs [stG,gB,hxy'];refine jJ n1 [1] (by decide) (by simp[gS,gB]) (by simp) ?_;by_cases h2':gN l m 2=1
  ·have hq:zB6 l x y Ds[x] Ds[y] u.id m=yN m.tick 2 0 u.id []:=by simp only[zB6,if_pos hxy,if_pos h2']
   have n2:=zAL (l:=l) m.tick 2 0 u.id [] (hok.adv (zY m) (by omega));simp -implicitDefEqProofs [gS,gB,h2',yG,zG];refine jJ n2 [1] (by decide) (by simp[gS,gB]) (by simp[zC]) ?_;simp -implicitDefEqProofs [gS,gB,zT];refine⟨_,_,zO [0,1,2,3,4,5,6] 0 (by decide) (by simp) ?_ (by simp),zQN Q _ Ds i hD many cv u _ (hrec _ hq)⟩;simp[stG,gB,zCL,yG,zG,zT]
  ·have hq:zB6 l x y Ds[x] Ds[y] u.id m=zBD l Ds[x] Ds[y] u.id m.tick:=by simp only[zB6,if_pos hxy,if_neg h2']
   simp -implicitDefEqProofs [gS,gB,h2'];refine⟨_,_,zO [0,1,2,3,4,5,6] 0 (by decide) (by simp) ?_ ?_,zVH hl _ m.tick (hok.adv (zY m) (by omega)) Ds x y i hx hy hD many cv u d hd h1 h2 hf ?_⟩
   ·simp[stG,gB,zCL,yG]
   ·simp[hxy']
   ·intro E S hw;simp -implicitDefEqProofs;exact⟨_,_,hw,zQN Q _ Ds i hD many cv u _ (hrec _ hq)⟩
 ·have hxy':¬(x:Int)=y:=by omega
  have hq:zB6 l x y Ds[x] Ds[y] u.id m=zBD l Ds[x] Ds[y] u.id m:=by simp only[zB6,if_neg hxy]
  simp -implicitDefEqProofs [stG,gB,hxy'];refine⟨_,_,zO [0,1,2,3,4,5,6] 0 (by decide) (by simp) ?_ ?_,zVH hl _ m (hok.mono (by omega)) Ds x y i hx hy hD many cv u d hd h1 h2 hf ?_⟩
  ·simp[stG,gB,zCL,yG]
  ·simp
  ·intro E S hw;simp -implicitDefEqProofs;exact⟨_,_,hw,zQN Q _ Ds i hD many cv u _ (hrec _ hq)⟩
theorem qGd {i:Nat}(h:i<7):∃R,List.drop i [A.lit (.string ⟨#[99,48]⟩),.lit (.string ⟨#[99,49]⟩),.lit (.string ⟨#[99,50]⟩),.lit (.string ⟨#[99,51]⟩),.lit (.string ⟨#[99,52]⟩),.lit (.string ⟨#[99,53]⟩),.lit (.string ⟨#[99,54]⟩)]=.lit (.string (cT.getD i ⟨#[]⟩))::R:=by
 have:i=0∨i=1∨i=2∨i=3∨i=4∨i=5∨i=6:=by omega
 rcases this with rfl | rfl | rfl | rfl | rfl | rfl | rfl<;>exact⟨_,rfl⟩
def zQs (i:Nat)(a:Id):Slt:=⟨idR ((30+i:Nat):Int),⟨#[111,108,100]⟩,jZ a,0,0⟩
def zQr (i:Nat)(a b:Id):Dfn:=⟨idR ((6+i:Nat):Int),5,idR 0,cT.getD i ⟨#[]⟩,[zQs i a],jZ b,.zero,0,[]⟩
theorem qB6 (hl:∀x∈l,w64 x=x)(Q:Ex→Env→St→Prop)(m:Gm)(hok:m.Ok 500)(Ds:List Dfn)(x y i:Nat)(hx:x<Ds.length)(hy:y<Ds.length)(hD:Ds.length≤100)(hi:i<7)(many cv:Int)
 (h1:Ds[x].slots.length≤6)(h2:Ds[y].slots.length≤6)(hf:∀u∈Ds[y].slots,u.typ=tK u.typ.k∧(u.typ.k=0∨u.typ.k=1))
 (hQ:∀env' σ',zA4 0 (qU [(2,.ptr 0 0),(3,.ptr 1 0),(4,.ptr 3 0),(5,int many),(10,int cv),(11,int i)]) (stG l (zB6 l x y Ds[x] Ds[y] (idR ((30+i:Nat):Int)) m).2 (Ds++[{zQr i Ds[x].id Ds[y].id with body:=(zB6 l x y Ds[x] Ds[y] (idR ((30+i:Nat):Int)) m).1}])) env' σ'→Q .norm env' σ') :
 wpK prog 0 zMC Q (qU [(2,.ptr 0 0),(3,.ptr 1 0),(4,.ptr 3 0),(5,int many),(10,int cv),(11,int i),(12,int x),(13,int y)]) (stG l m Ds):=by
 have w30:=jS (30+(i:Int)) (by omega);have w6:=jS (6+(i:Int)) (by omega);have i1:=zFE (30+(i:Int));have i2:=zFE (6+(i:Int));have i3:=zFE 0;have o1:=zZ1 Ds[x].id;have o2:=zZ1 Ds[y].id;have dx:=zA5 hx;have dy:=zA5 hy;have bx:x*31+3≤Ds.length*31:=by omega
 have by_:y*31+3≤Ds.length*31:=by omega
 have hne:Ds≠[]:=fun e=>by rw[e]at hx; simp at hx
 obtain⟨R,hcT⟩:=qGd hi;unfold zMC;simp -implicitDefEqProofs [stG,gB];refine⟨_,_,zAe 1,?_⟩;simp -implicitDefEqProofs [List.replicate,w30];refine zAJ i1 (by simp) (by simp[zC]) ?_;simp -implicitDefEqProofs [hx,hy,hne,dx,dy,bx,by_,zG];refine zAJ o1 (by simp[zC]) (by simp[zU]) ?_;simp -implicitDefEqProofs [zU,zC];refine⟨_,_,zAe 1,?_⟩;simp -implicitDefEqProofs [List.replicate,w6];refine zAJ i2 (by simp) (by simp[zC]) ?_;refine zAJ i3 (by simp) (by simp[zC]) ?_;have hi':(i:Int)<7:=by omega
 simp -implicitDefEqProofs [hi,hi',hcT,hy,hne,dy,by_,zG];refine zAJ o2 (by simp[zC]) (by simp[zU]) ?_;simp -implicitDefEqProofs [zU,zC];refine⟨_,_,zO [0,1,2,3,4,5,6] 0 (by decide) (by simp) ?_ (by simp),qB7 hl Q m hok Ds x y i hx hy hD many cv (zQs i Ds[x].id) (zQr i Ds[x].id Ds[y].id) rfl h1 h2 hf hQ⟩;simp[stG,gB,zCL,yG,zG,zQs,zQr,jZ,Typ.k,Typ.id,Typ.kids,Exp.zero,Id.zero,Typ.zero,zBA,zU]
end
@[simp] theorem qJH:zA prog 11=true:=by kernel_rfl
def zVv (p:Prg)(x:Id):Typ×Typ:=(yH p x).getD (.zero,.zero)
end Go.Proofs.YtdnelmeboihpkaaGreatDoor
