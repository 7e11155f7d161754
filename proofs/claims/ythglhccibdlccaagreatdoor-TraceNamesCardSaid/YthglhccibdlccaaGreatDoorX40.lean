/-
  What tweaks and new names keep.
  What a run asks is bounded by its fuel; the three evaluators have the same states, and the same values where nothing fails.
  The program's operations: numbers, truth values, lists.
  Tweaked programs, walked.
  The reference's operations.
-/
import Derived.Test.YthglhccibdlccaaGreatDoorX36
import Derived.Test.YthglhccibdlccaaGreatDoorX39
import Derived.Test.YthglhccibdlccaaGreatDoorX37
import Derived.Test.YthglhccibdlccaaGreatDoorX20
import Derived.Test.YthglhccibdlccaaGreatDoorX17
set_option linter.unusedVariables false
set_option linter.unusedSimpArgs false
namespace Go.Proofs.YthglhccibdlccaaGreatDoor
open Go.Abs
mutual
def Exp.nice:Exp→Prop
 | .mk _ k _ _ _ ks ns=>(k=5→ks.length=3)∧ns.length≤10∧zAo ks
def zAo:List Exp→Prop
 | []=>True
 | e::l=>e.nice∧zAo l
end
theorem zDp:∀l:List Exp,zAo l↔∀e∈l,e.nice
 | []=>by simp[zAo]
 | e::l=>by simp[zAo,zDp l]
theorem qIP (e:Exp):e.nice↔(e.k=5→e.kids.length=3)∧e.names.length≤10∧∀k∈e.kids,k.nice:=by cases e; simp only[Exp.nice,zDp,Exp.k_mk,Exp.kids_mk,Exp.names_mk]
theorem zTu:Exp.zero.nice:=by simp[Exp.zero,Exp.nice,zAo]
mutual
theorem zY5:∀(e:Exp),e.nice→zMA e
 | .mk i k n r t ks ns,h=>by
  intro z hz hk;simp only[Exp.nice]at h;simp only[zAJ]at hz;rcases List.mem_cons.1 hz with rfl | hz
  ·exact h.1 hk
  ·exact zOF ks h.2.2 z hz hk
theorem zOF:∀(l:List Exp),zAo l→∀z∈zAK l,z.k=5→z.kids.length=3
 | [],_,z,hz,_=>by simp[zAK]at hz
 | e::l,h,z,hz,hk=>by
  simp only[zAK,List.mem_append]at hz;rcases hz with hz | hz
  ·exact zY5 e h.1 z hz hk
  ·exact zOF l h.2 z hz hk
end
mutual
theorem zOG:∀(e:Exp),e.nice→(tmps e).length≤1000000→e.few
 | .mk i k n r t ks ns,h,hs=>by have hk:=zGF hs;simp only[Exp.nice]at h;simp only[Exp.few];exact⟨by omega,hk.1,zMm ks h.2.2 hk.2⟩
theorem zMm:∀(l:List Exp),zAo l→(∀k∈l,(tmps k).length≤1000000)→zSO l
 | [],_,_=>trivial
 | e::l,h,hs=>⟨zOG e h.1 (hs e (by simp)),zMm l h.2 fun k hk=>hs k (by simp[hk])⟩
end
mutual
theorem zPf (f:Int→Id):∀(e:Exp),e.nice→(zBK f e).nice∧(tmps (zBK f e)).length=(tmps e).length
 | .mk i k n r t ks ns,h=>by simp only[Exp.nice]at h;have:=zMw f ks h.2.2;simp only[zBK,Exp.nice,tmps,List.length_append,List.length_singleton,this.2.1,this.2.2];exact⟨⟨h.1,h.2.1,this.1⟩,trivial⟩
theorem zMw (f:Int→Id):∀(l:List Exp),zAo l→zAo (zH3 f l)∧(qW (zH3 f l)).length=(qW l).length∧(zH3 f l).length=l.length
 | [],_=>⟨trivial,rfl,rfl⟩
 | e::l,h=>by have h1:=zPf f e h.1;have h2:=zMw f l h.2;simp only[zH3,zAo,qW,List.length_append,List.length_cons,h1.2,h2.2.1,h2.2.2,and_true];exact⟨h1.1,h2.1⟩
end
mutual
theorem zOE (s:ByteArray):∀(e:Exp),e.nice→(zA4 s e).nice∧(tmps (zA4 s e)).length=(tmps e).length
 | .mk i k n r t ks ns,h=>by simp only[Exp.nice]at h;have:=zMl s ks h.2.2;simp only[zA4,Exp.nice,tmps,List.length_append,List.length_singleton,List.length_map,this.2.1,this.2.2];exact⟨⟨h.1,h.2.1,this.1⟩,trivial⟩
theorem zMl (s:ByteArray):∀(l:List Exp),zAo l→zAo (zOD s l)∧(qW (zOD s l)).length=(qW l).length∧(zOD s l).length=l.length
 | [],_=>⟨trivial,rfl,rfl⟩
 | e::l,h=>by have h1:=zOE s e h.1;have h2:=zMl s l h.2;simp only[zOD,zAo,qW,List.length_append,List.length_cons,h1.2,h2.2.1,h2.2.2,and_true];exact⟨h1.1,h2.1⟩
end
theorem zPy {e:Exp}(h:e.nice)(x:Int):(zAr e x).nice∧(tmps (zAr e x)).length=(tmps e).length:=by
 have hN:∀n,(twN e n).nice∧(tmps (twN e n)).length=(tmps e).length:=fun n=>by cases e;simp only[Exp.nice]at h;simp only[twN,Exp.nice,Exp.id_mk,Exp.k_mk,Exp.ref_mk,Exp.typ_mk,Exp.kids_mk,Exp.names_mk,tmps];exact⟨h,trivial⟩
 unfold zAr;split
 ·exact hN _
 ·split
  ·exact hN _
  ·split
   ·split
    ·exact hN _
    ·split
     ·exact hN _
     ·exact⟨h,rfl⟩
   ·split
    ·split
     ·rename_i a b c hk;cases e with
      | mk i k n r t ks ns =>
       simp only[Exp.kids_mk]at hk;subst hk;simp only[Exp.nice,zAo]at h;simp only[twK,Exp.nice,zAo,Exp.id_mk,Exp.k_mk,Exp.n_mk,Exp.ref_mk,Exp.typ_mk,Exp.names_mk,tmps,qW,List.length_append,List.length_singleton,List.length_nil];obtain⟨h1,h2,h3,h4,h5,_⟩:=h;exact⟨⟨fun _=>rfl,h2,h3,h5,h4,trivial⟩,by omega⟩
     ·exact⟨h,rfl⟩
    ·exact⟨h,rfl⟩
mutual
theorem zKT (x:Int):∀(e:Exp) (a:Int),e.nice→(zA2 e a x).1.nice∧(tmps (zA2 e a x).1).length=(tmps e).length
 | .mk i k n r t ks ns,a,h=>by
  simp only[zA2];split
  ·exact zPy h x
  ·simp only[Exp.nice]at h;have:=zF6 x ks (a-1) h.2.2;simp only[Exp.nice,tmps,List.length_append,List.length_singleton,this.2,zES];exact⟨⟨h.1,h.2.1,this.1⟩,trivial⟩
theorem zF6 (x:Int):∀(l:List Exp) (a:Int),zAo l→zAo (jT l a x).1∧(qW (jT l a x).1).length=(qW l).length
 | [],_,_=>⟨trivial,rfl⟩
 | e::l,a,h=>by
  simp only[jT];split
  ·have h1:=zKT x e a h.1;have h2:=zF6 x l (zA2 e a x).2 h.2;simp only[zAo,qW,List.length_append,h1.2,h2.2,and_true];exact⟨h1.1,h2.1⟩
  ·have h2:=zF6 x l a h.2;simp only[zAo,qW,List.length_append,h2.2,and_true];exact⟨h.1,h2.1⟩
end
theorem zZk {hs:List Hd}{own:Int}{env:List Bnd}{e:Exp}{t:Typ}(h:WT hs own env e t):e.nice:=by
 induction h with
 | int env i n h1 h2=>simp[Exp.nice,zAo]
 | bool env i n h=>simp[Exp.nice,zAo]
 | var env i n x t h=>simp[Exp.nice,zAo]
 | call env i k h ks ho hk hlen hw ih =>
  simp only[Exp.nice,zDp];refine⟨fun h=>by omega,by simp,fun e hm=>?_⟩;obtain⟨j,hj,rfl⟩:=List.getElem_of_mem hm;exact ih j hj
 | arith env i n a b h1 h2 ha hb iha ihb=>simp[Exp.nice,zAo,iha,ihb]
 | less env i a b ha hb iha ihb=>simp[Exp.nice,zAo,iha,ihb]
 | same env i a b u ha hb iha ihb=>simp[Exp.nice,zAo,iha,ihb]
 | andor env i n a b h ha hb iha ihb=>simp[Exp.nice,zAo,iha,ihb]
 | not env i a ha iha=>simp[Exp.nice,zAo,iha]
 | join env i a b t ha hb iha ihb=>simp[Exp.nice,zAo,iha,ihb]
 | len env i a t ha iha=>simp[Exp.nice,zAo,iha]
 | ite env i a b c t ha hb hc iha ihb ihc=>simp[Exp.nice,zAo,iha,ihb,ihc]
 | lets env i a b u t ns hn ha hb iha ihb=>simp[Exp.nice,zAo,iha,ihb,hn]
 | record env i k h ks hk hlen hw ih =>
  simp only[Exp.nice,zDp];refine⟨fun h=>by omega,by simp,fun e hm=>?_⟩;obtain⟨j,hj,rfl⟩:=List.getElem_of_mem hm;exact ih j hj
 | field env i k h j hj a hk ha iha=>simp[Exp.nice,zAo,iha]
 | case env i k h j hj a hk ha iha=>simp[Exp.nice,zAo,iha]
 | mtch env i k h a ks t ns hn hk hlen ha hw iha ih =>
  simp only[Exp.nice,zDp];refine⟨fun h=>by omega,hn,fun e hm=>?_⟩;rcases List.mem_cons.1 hm with rfl | hm
  ·exact iha
  ·obtain⟨j,hj,rfl⟩:=List.getElem_of_mem hm;exact ih j hj
 | list env i t ks hw ih =>
  simp only[Exp.nice,zDp];refine⟨fun h=>by omega,by simp,fun e hm=>?_⟩;obtain⟨j,hj,rfl⟩:=List.getElem_of_mem hm;exact ih j hj
 | fold env i l s b u t ns hn hl' hs' hb' ihl ihs ihb=>simp[Exp.nice,zAo,ihl,ihs,ihb,hn]
structure FineP (p:Prg):Prop where
 defs:p.defs.length≤9
 mods:p.mods.length≤100
 slots:∀d∈p.defs,1≤d.slots.length∧d.slots.length≤6
 nice:∀d∈p.defs,d.body.nice
 size:∀d∈p.defs,(tmps d.body).length≤32768
theorem FineP.small {p:Prg}(h:FineP p):(zDz p.defs).length≤100000∧(zDZ p.defs).length≤300000∧(zA0 p.defs).length≤300000:=by
 have h9:=h.defs;have hn:=zTx p.defs 32768 h.size;have h3:(zA0 p.defs).length≤300000:=by omega
 have key:∀{α : Type} (idf : α→Id) (L acc:List α),(L.foldl (zAG idf) acc).length≤acc.length+L.length:=by
  intro α idf L;induction L with
  | nil=>intro acc; simp
  | cons x L ih =>
   intro acc;rw[List.foldl_cons];have:=ih (zAG idf acc x);have h2:(zAG idf acc x).length≤acc.length+1:=by
    unfold zAG;split
    ·omega
    ·simp
   simp only[List.length_cons];omega
 refine⟨?_,?_,h3⟩
 ·have:=key Dfn.id p.defs [];simp only[List.length_nil,Nat.zero_add]at this;unfold zDz;omega
 ·rw[zIh];have:=key Exp.id (zA0 p.defs) [];simp only[List.length_nil,Nat.zero_add]at this;omega
structure Bn (c:Nat)(m:Int)(s:XS):Prop where
 ns:s.ns.length+s.fuel.toNat≤c
 ds:s.ds.length+s.fuel.toNat≤c
 fu:s.fuel≤m
structure Bd (c:Nat)(m:Int)(s:XS):Prop where
 ns:s.ns.length+s.fuel.toNat≤c
 ds:s.ds.length+s.fuel.toNat≤c
 fu:s.fuel≤m
 ok:s.fail=0→s.ds.length+s.fuel.toNat+1≤c
theorem Bd.bn {c:Nat}{m:Int}{s:XS}(h:Bd c m s):Bn c m s:=⟨h.ns,h.ds,h.fu⟩
theorem Bd.mono {c:Nat}{m m':Int}{s:XS}(h:Bd c m s)(hm:m≤m'):Bd c m' s:=⟨h.ns,h.ds,by have:=h.fu; omega,h.ok⟩
theorem Bn.bad {c:Nat}{m:Int}{s:XS}(h:Bn c m s)(hf:s.fail≠0):Bd c m s:=⟨h.ns,h.ds,h.fu,fun e=>(hf e).elim⟩
theorem Bn.fail {c:Nat}{m:Int}{s:XS}(h:Bn c m s){x:Int}(hx:x≠0):Bd c m {s with fail:=x}:=⟨h.ns,h.ds,h.fu,fun e=>(hx e).elim⟩
theorem Bn.tick {c:Nat}{m:Int}{s:XS}(h:Bn c m s)(e:Exp)(hf:¬s.fuel≤0):Bd c (m-1) (zEX e s):=by obtain⟨h1,h2,h3⟩:=h;unfold zEX;exact⟨by simp only[List.length_append,List.length_singleton]; omega,by dsimp only; omega,by dsimp only; omega,fun _=>by dsimp only; omega⟩
theorem Bd.def {c:Nat}{m:Int}{s:XS}(h:Bd c m s)(d:Id)(hf:s.fail=0):Bn c m {s with ds:=s.ds++[d]}:=by have:=h.ok hf;exact⟨h.ns,by simp only[List.length_append,List.length_singleton]; omega,h.fu⟩
section
variable {p:Prg}{ev:Evl}{c:Nat}{m:Int}
theorem zJl (h:∀e V s,Bn c m s→Bd c m (ev e V s).2)(V:List EVar):∀(l:List Exp) (s:XS),Bd c m s→Bd c m (jQ ev V l s).2
 | [],s,hs=>hs
 | e::l,s,hs=>by simp only[jQ]; exact zJl h V l _ (h e V s hs.bn)
theorem zJW (h:∀e V s,Bn c m s→Bd c m (ev e V s).2)(V:List EVar)(i:Id)(b:Exp):∀(l:List Val) (r:Val×XS),Bd c m r.2→Bd c m (zAz ev V i b l r).2
 | [],r,hs=>hs
 | e::l,r,hs=>by simp only[zAz]; exact zJW h V i b l _ (h _ _ _ hs.bn)
theorem zND (h:∀e V s,Bn c m s→Bd c m (ev e V s).2)(d:Dfn)(vs:List Val)(s:XS)(hs:Bd c m s):Bd c m (zCw ev d vs s).2:=by
 unfold zCw;split
 ·exact hs
 ·rename_i hf;exact h _ _ _ (hs.def d.id (by omega))
theorem zPD (h:∀e V s,Bn c m s→Bd c m (ev e V s).2)(e:Exp)(V:List EVar)(s:XS)(hs:Bd c m s):Bd c m (jX ev e V s).2:=by
 unfold jX;have h0:=h (e.kids.headD .zero) V s hs.bn;generalize ev (e.kids.headD .zero) V s=r at *
 repeat' split
 all_goals first
  | exact h0
  | exact h _ _ _ h0.bn
  | exact zJW h _ _ _ _ _ (h _ _ _ h0.bn)
theorem zTJ (h:∀e V s,Bn c m s→Bd c m (ev e V s).2)(fl:Nat)(e:Exp)(V:List EVar)(s:XS)(hs:Bd c m s):Bd c m (qV p fl ev e V s).2:=by
 unfold qV;have h0:=zJl h V e.kids s hs;generalize jQ ev V e.kids s=r at *
 repeat' split
 all_goals first
  | exact hs
  | exact h0
  | exact zPD h _ _ _ hs
  | exact zND h _ _ _ h0
theorem zYw {r:Val×XS}(h:Bd c m r.2):Bd c m (zG6 r):=by
 unfold zG6;split
 ·exact h.bn.fail (by decide)
 ·exact h
theorem zKx (fl:Nat):∀(n:Nat) e V s,Bn c m s→Bd c m (zBR p fl n e V s).2
 | 0,e,V,s,hs=>by
  rw[zBR];split
  ·rename_i h; exact hs.bad h
  ·exact hs.fail (by decide)
 | n+1,e,V,s,hs=>by
  rw[zBR];split
  ·rename_i h; exact hs.bad h
  ·split
   ·exact hs.fail (by decide)
   ·rename_i h;exact zYw (zTJ (zKx fl n) fl e V _ ((hs.tick e h).mono (by omega)))
end
section
variable {p:Prg}{f g:Evl}
end
def qFM:K:=G [kMi 2 0] (G [M 3 0,⟨none,.mm (some 4) true [(kt 3),(kc (-1099511627776))]⟩,⟨none,.mm (some 5) false [(kt 4),(kc 1099511627776)]⟩,M 2 5] kr)
theorem qMq:zK Tryz.prog Tryz.f200.ntmps (Tryz.f200.body.getD .skip)=some qFM.erase:=by kernel_rfl
@[simp] theorem qNj:zA Tryz.prog 200=true:=by kernel_rfl
theorem zNX (n:Int):Ret Tryz.prog 200 [int n] [] (int (zB9 n)) []:=by
 refine zH Tryz.func200 rfl qMq (rs:=[.slot 2]) (by kernel_rfl) ?_;unfold qFM;by_cases h1:n < -1099511627776
 ·simp[h1];exact zC 0 (by simp[zB9,h1,show ¬1099511627776<n by omega])
 ·by_cases h2:1099511627776<n
  ·simp[h1,h2];exact zC 0 (by simp[zB9,h2])
  ·simp[h1,h2];exact zC 0 (by simp[zB9,h1,h2])
def qFU:K:=G [kZ 2 [ki,ki,kl]] (Z (G [M 3 0] (Y 3 (G [kb 4 [ki,ki,kl] [(0,1,(kc 1)),(1,1,(kc 1))],S 2 4 3] kr) ks)) (G [kb 5 [ki,ki,kl] [(0,1,(kc 1))],S 2 5 3] kr))
theorem qMy:zK Tryz.prog Tryz.f162.ntmps (Tryz.f162.body.getD .skip)=some qFU.erase:=by kernel_rfl
@[simp] theorem qNr:zA Tryz.prog 162=true:=by kernel_rfl
theorem zAW (b:Bool):Ret Tryz.prog 162 [bl b] [] (.agg (zQ (zBL b))) []:=by
 refine zH Tryz.func162 rfl qMy (rs:=[.cell 2 3 true]) (by kernel_rfl) ?_;unfold qFU;cases b with
 | true =>
  simp;exact zC 0 (by simp[zQ,zBL,Val.k,Val.n,Val.kids])
 | false =>
  simp;exact zC 0 (by simp[zQ,zBL,Val.k,Val.n,Val.kids])
def Rng (a:Int):Prop:=-1099511627776≤a∧a≤1099511627776
def qFP:K:=G [kMi 4 0] (G [M 5 0,M 6 1,kB 7 5 6 .add,kC 8 200 [(kt 7)],M 4 8] kr)
theorem qMt:zK Tryz.prog Tryz.f199.ntmps (Tryz.f199.body.getD .skip)=some qFP.erase:=by kernel_rfl
@[simp] theorem qNm:zA Tryz.prog 199=true:=by kernel_rfl
def qFQ:K:=G [kMi 4 0] (G [M 5 0,M 6 1,kB 7 5 6 .sub,kC 8 200 [(kt 7)],M 4 8] kr)
theorem qMu:zK Tryz.prog Tryz.f201.ntmps (Tryz.f201.body.getD .skip)=some qFQ.erase:=by kernel_rfl
@[simp] theorem qNn:zA Tryz.prog 201=true:=by kernel_rfl
def qFT:K:=G [kMi 4 0] (Z (G [M 5 0,kQi 6 5 0 false,M 7 6,T 7 false (M 8 1),T 7 false (kQi 9 8 0 false),kPt 10 7 9] (Y 10 (G [kMi 4 0] kr) ks)) (Z (G [M 11 0,M 12 0,⟨none,.neg (some 13) (kt 12)⟩,⟨none,.mm (some 14) true [(kt 11),(kt 13)]⟩,M 15 1,M 16 1,⟨none,.neg (some 17) (kt 16)⟩,⟨none,.mm (some 18) true [(kt 15),(kt 17)]⟩,⟨none,.bin (some 19) .quo (kc 1099511627776) (kt 18)⟩,kB 20 14 19 .gtr] (Y 20 (Z (G [M 21 0,kBi 22 21 0 .lss,M 23 1,kBi 24 23 0 .lss,⟨none,.eqv (some 25) false .b (kt 22) (kt 24)⟩] (Y 25 (G [kMi 4 1099511627776] kr) ks)) (G [⟨none,.mov (some 4) (kc (-1099511627776))⟩] kr)) ks)) (G [M 26 0,M 27 1,kB 28 26 27 .mul,M 4 28] kr)))
theorem qMx:zK Tryz.prog Tryz.f202.ntmps (Tryz.f202.body.getD .skip)=some qFT.erase:=by kernel_rfl
@[simp] theorem qNq:zA Tryz.prog 202=true:=by kernel_rfl
def qFO:K:=G [kMi 4 0] (Z (G [M 6 1,kQi 7 6 0 false] (Y 7 (G [kMi 4 0] kr) ks)) (G [M 8 0,M 9 1,kB 10 8 9 .quo,M 5 10] (Z (G [M 11 0,M 12 1,kB 13 11 12 .rem,kQi 14 13 0 true,M 15 14,T 15 true (M 16 0),T 15 true (kBi 17 16 0 .lss),T 15 true (M 18 1),T 15 true (kBi 19 18 0 .lss),⟨some (15,true),.eqv (some 20) true .b (kt 17) (kt 19)⟩,kPf 21 15 20] (Y 21 (K.ops [M 22 5,kBi 23 22 1 .sub,M 5 23]) ks)) (G [M 24 5,M 4 24] kr))))
theorem qMs:zK Tryz.prog Tryz.f203.ntmps (Tryz.f203.body.getD .skip)=some qFO.erase:=by kernel_rfl
@[simp] theorem qNl:zA Tryz.prog 203=true:=by kernel_rfl
def qFS:K:=G [kMi 4 0] (Z (G [M 5 1,kQi 6 5 0 false] (Y 6 (G [kMi 4 0] kr) ks)) (G [M 7 0,M 8 1,M 9 0,M 10 1,kC 11 203 [(kt 9),(kt 10)],kB 12 8 11 .mul,kB 13 7 12 .sub,M 4 13] kr))
theorem qMw:zK Tryz.prog Tryz.f204.ntmps (Tryz.f204.body.getD .skip)=some qFS.erase:=by kernel_rfl
@[simp] theorem qNp:zA Tryz.prog 204=true:=by kernel_rfl
theorem zXM {a b:Int}(ha:Rng a)(hb:Rng b):Ret Tryz.prog 199 [int a,int b] [] (int (zB9 (a+b))) []:=by obtain⟨a1,a2⟩:=ha;obtain⟨b1,b2⟩:=hb;refine zH Tryz.func199 rfl qMt (rs:=[.slot 4]) (by kernel_rfl) ?_;unfold qFP;have hw:IntKind.i64.wrap (a+b)=a+b:=IntWalk.i64_in _ (by omega);simp[hw];refine zR (zNX (a+b)) (by simp) (by simp) ?_;simp;exact zC 0 (by simp)
theorem zYf {a b:Int}(ha:Rng a)(hb:Rng b):Ret Tryz.prog 201 [int a,int b] [] (int (zB9 (a-b))) []:=by obtain⟨a1,a2⟩:=ha;obtain⟨b1,b2⟩:=hb;refine zH Tryz.func201 rfl qMu (rs:=[.slot 4]) (by kernel_rfl) ?_;unfold qFQ;have hw:IntKind.i64.wrap (a-b)=a-b:=IntWalk.i64_in _ (by omega);simp[hw];refine zR (zNX (a-b)) (by simp) (by simp) ?_;simp;exact zC 0 (by simp)
theorem zS7 {m n q:Nat}(hq:1099511627776 / n=q)(hn:0<n):(q<m→1099511627776<m*n)∧(¬q<m→m*n≤1099511627776):=by
 constructor
 ·intro h;rw[←hq]at h;exact(Nat.div_lt_iff_lt_mul hn).1 h
 ·intro h;rw[←hq]at h;have:=mt (Nat.div_lt_iff_lt_mul hn).2 h;omega
theorem zRZ (a:Int)(h:a≠0):∃m:Nat,0<m∧(a=m∨a = -(m:Int)):=⟨a.natAbs,by omega,by omega⟩
set_option maxHeartbeats 1000000 in
theorem zSI {a b:Int}(ha:Rng a)(hb:Rng b):Ret Tryz.prog 202 [int a,int b] [] (int (zB9 (a*b))) []:=by
 obtain⟨a1,a2⟩:=ha;obtain⟨b1,b2⟩:=hb;refine zH Tryz.func202 rfl qMx (rs:=[.slot 4]) (by kernel_rfl) ?_;unfold qFT;by_cases h0:a=0
 ·subst h0;simp;exact zC 0 (by simp[zB9])
 by_cases h1:b=0
 ·subst h1;simp[h0];exact zC 0 (by simp[zB9])
 obtain⟨m,m0,hm⟩:=zRZ a h0;obtain⟨n,n0,hn⟩:=zRZ b h1;obtain⟨q,hq⟩:∃q:Nat,1099511627776 / n=q:=⟨_,rfl⟩;obtain⟨c1,c2⟩:=zS7 (m:=m) hq n0;have hqd:Int.tdiv 1099511627776 (n:Int)=(q:Int):=by rw[tdN (by omega),←hq]; rfl
 have hqle:q≤1099511627776:=by rw[←hq]; exact Nat.div_le_self _ _
 have wq:IntKind.i64.wrap (q:Int)=q:=IntWalk.i64_in _ (by omega);have wm:IntKind.i64.wrap (m:Int)=m:=IntWalk.i64_in _ (by omega);have wn:IntKind.i64.wrap (n:Int)=n:=IntWalk.i64_in _ (by omega);have wm':IntKind.i64.wrap (-(m:Int)) = -m:=IntWalk.i64_in _ (by omega);have wn':IntKind.i64.wrap (-(n:Int)) = -n:=IntWalk.i64_in _ (by omega);have x1:¬((m:Int) < -m):=by omega
 have x2:(-(m:Int))<m:=by omega
 have y1:¬((n:Int) < -n):=by omega
 have y2:(-(n:Int))<n:=by omega
 have z1:¬((m:Int)<0):=by omega
 have z2:(-(m:Int))<0:=by omega
 have z3:¬((n:Int)<0):=by omega
 have z4:(-(n:Int))<0:=by omega
 have m1:¬m=0:=by omega
 have n1:¬n=0:=by omega
 have p0:(m:Int)*n=((m*n:Nat):Int):=by push_cast; rfl
 generalize hmn:m*n=s at *
 by_cases hc:(q:Int)<m
 ·have hs:=c1 (by omega);have k1:zB9 (s:Int)=1099511627776:=by unfold zB9; rw[if_pos (by omega)]
  have k2:zB9 (-(s:Int)) = -1099511627776:=by unfold zB9; rw[if_neg (by omega),if_pos (by omega)]
  rcases hm with rfl | rfl<;>rcases hn with rfl | rfl<;>simp[m1,n1,wm,wn,wm',wn',x1,x2,y1,y2,z1,z2,z3,z4,m0,n0,hqd,wq,hc]<;>exact zC 0 (by simp[Int.neg_mul,Int.mul_neg,p0,k1,k2])
 ·have hs:=c2 (by omega);have k1:zB9 (s:Int)=s:=by unfold zB9; rw[if_neg (by omega),if_neg (by omega)]
  have k2:zB9 (-(s:Int)) = -s:=by unfold zB9; rw[if_neg (by omega),if_neg (by omega)]
  have w1:IntKind.i64.wrap (s:Int)=s:=IntWalk.i64_in _ (by omega);have w2:IntKind.i64.wrap (-(s:Int)) = -s:=IntWalk.i64_in _ (by omega);rcases hm with rfl | rfl<;>rcases hn with rfl | rfl<;>simp[m1,n1,wm,wn,wm',wn',x1,x2,y1,y2,z1,z2,z3,z4,m0,n0,hqd,wq,hc]<;>exact zC 0 (by simp[Int.neg_mul,Int.mul_neg,p0,k1,k2,w1,w2])
theorem zJL {a b:Int}(ha:Rng a)(hb:Rng b):Ret Tryz.prog 203 [int a,int b] [] (int (zGs a b)) []:=by
 obtain⟨a1,a2⟩:=ha;refine zH Tryz.func203 rfl qMs (rs:=[.slot 4]) (by kernel_rfl) ?_;unfold qFO;by_cases h1:b=0
 ·subst h1;simp;exact zC 0 (by simp[zGs])
 have ht:=zSd (b:=b) a1 a2;have w1:IntKind.i64.wrap (a.tdiv b)=a.tdiv b:=IntWalk.i64_in _ (by omega);have w2:IntKind.i64.wrap (a.tdiv b-1)=a.tdiv b-1:=IntWalk.i64_in _ (by omega);have e:zGs a b=if a.tmod b≠0∧¬(a<0↔b<0) then a.tdiv b-1 else a.tdiv b:=by unfold zGs; rw[if_neg h1]
 rw[e];by_cases hm:a.tmod b=0
 ·simp[h1,hm,w1];exact zC 0 (by simp[hm])
 by_cases s1:a<0<;>by_cases s2:b<0<;>simp[h1,hm,w1,s1,s2,w2]<;>exact zC 0 (by simp[hm,s1,s2])
theorem zV4 {a b:Int}(ha:Rng a)(hb:Rng b):Ret Tryz.prog 204 [int a,int b] [] (int (zNn a b)) []:=by
 have hd:=zJL ha hb;refine zH Tryz.func204 rfl qMw (rs:=[.slot 4]) (by kernel_rfl) ?_;unfold qFS;by_cases h1:b=0
 ·subst h1;simp;exact zC 0 (by simp[zNn])
 have hr:=zKB (a:=a) hb.1 hb.2;have e:zNn a b=a-b*zGs a b:=by unfold zNn; rw[if_neg h1]
 obtain⟨a1,a2⟩:=ha;have w1:IntKind.i64.wrap (b*zGs a b)=b*zGs a b:=IntWalk.i64_in _ (by omega);have w2:IntKind.i64.wrap (a-b*zGs a b)=a-b*zGs a b:=IntWalk.i64_in _ (by omega);simp[h1];refine zR hd (by simp) (by simp) ?_;simp[w1,w2];exact zC 0 (by simp[e])
def zPe:Go.Shelf.Ren:=⟨fun | 4=>181 | n=>n,fun | 0=>0 | 3=>3 | 4=>4 | 9=>9 | 20=>20 | 22=>40 | 25=>47 | n=>n,fun n=>n⟩
theorem zVV:Go.Proofs.Lays8.n4 Tryz.prog zPe:={
 mixed:=by kernel_rfl,
 f4:=⟨Tryz.f181.name,by decide,Tryz.func181.trans (congrArg some (by kernel_rfl))⟩,
 t0:=Tryz.underlying0,
 a0:=Tryz.isAgg0,
 z0:=Tryz.sizeOf0,
 v0:=Tryz.zeroValue0,
 t3:=Tryz.underlying3,
 a3:=Tryz.isAgg3,
 z3:=Tryz.sizeOf3,
 v3:=Tryz.zeroValue3,
 t4:=Tryz.underlying4,
 a4:=Tryz.isAgg4,
 z4:=Tryz.sizeOf4,
 v4:=Tryz.zeroValue4,
 t9:=Tryz.underlying9,
 a9:=Tryz.isAgg9,
 z9:=Tryz.sizeOf9,
 v9:=Tryz.zeroValue9,
 t20:=Tryz.underlying20,
 a20:=Tryz.isAgg20,
 z20:=Tryz.sizeOf20,
 v20:=Tryz.zeroValue20,
 t22:=Tryz.underlying40,
 a22:=Tryz.isAgg40,
 z22:=Tryz.sizeOf40,
 v22:=Tryz.zeroValue40}
@[simp] theorem qHB:zA Tryz.prog 181=true:=by kernel_rfl
theorem zOk (n:Nat)(hn:n≤1000000):Ret Tryz.prog 181 [.nil,int n] [] (.row 0 0) [.row false 47 3 0 []] :=
 zLW (ρ:=zPe) (sz:=3) (bs:=40) (z:=.agg #[.int .i64 0,.int .i64 0,.slice none 0 0]) zVV (by kernel_rfl) rfl (by omega) (by omega) (by omega)
def zNz:K:=G [kMn 2] (G [kMi 3 0] (Z (G [M 9 0,kN 10 9,kMi 11 0] (K.block 0 (K.loop (G [kB 12 11 10 .lss] (Z (Y 12 ks (K.exit 0)) (Z (K.block 1 (G [kX 13 9 11 1,L 14 13 1,M 5 14] (G [M 15 3,M 16 5,kN 17 16,kB 18 15 17 .add,M 3 18] (G [M 19 3,kBi 20 19 0 .lss] (Y 20 (K.ops [⟨none,.mki (some 21) 9 (.const (.string ⟨#[108,101,110,32,111,117,116,32,111,102,32,114,97,110,103,101]⟩))⟩,⟨none,.pan none (kt 21)⟩]) ks))))) (K.ops [kBi 22 11 1 .add,M 11 22]))))))) (G [M 23 3,kC 24 181 [(.const kl),(kt 23)],M 6 24] (Z (G [M 25 0,kN 26 25,kMi 27 0] (K.block 2 (K.loop (G [kB 28 27 26 .lss] (Z (Y 28 ks (K.exit 2)) (Z (K.block 3 (G [kX 29 25 27 1,L 30 29 1,M 8 30] (K.ops [M 31 6,M 32 8,kP 33 47 3 40 31 32,M 6 33]))) (K.ops [kBi 34 27 1 .add,M 27 34]))))))) (G [M 35 6,M 2 35] kr)))))
theorem zUC:zK Tryz.prog Tryz.f168.ntmps (Tryz.f168.body.getD .skip)=some zNz.erase:=by kernel_rfl
@[simp] theorem qB8:zA Tryz.prog 168=true:=by kernel_rfl
def zAE (Ls:List (List Val)):List A:=Ls.map fun l=>A.sl l.length (zW l)
theorem zDT:∀(Ls:List (List Val)),qX (zAE Ls)
 | []=>qX.nil
 | l::Ls=>by
  have h1:=zDT Ls;have h2:=zBF l;refine⟨?_,fun rf g=>?_⟩
  ·show qU (A.sl l.length (zW l)::zAE Ls)=_;simp[h1.1];rfl
  ·show vwL rf g (A.sl l.length (zW l)::zAE Ls)=_;simp[h1.2];rfl
@[simp] theorem zY8 (l:List (List Val)):qU (zAE l)=zAE l:=(zDT l).1
@[simp] theorem qD0 {rf g}(l:List (List Val)):vwL rf g (zAE l)=zAE l:=(zDT l).2 _ _
@[simp] theorem qAc (l:List (List Val)):(zAE l).length=l.length:=by simp[zAE]
theorem zHa {Ls:List (List Val)}{i:Nat}(h:i<Ls.length):(zAE Ls).drop i=.sl Ls[i].length (zW Ls[i])::zAE (Ls.drop (i+1)):=by rw[zAE,←List.map_drop,List.drop_eq_getElem_cons h]; rfl
def zDD (Ls:List (List Val)):Nat:=Ls.flatten.length
theorem zM7 {Ls:List (List Val)}{i:Nat}(h:i<Ls.length):zDD (Ls.take (i+1))=zDD (Ls.take i)+Ls[i].length:=by rw[zDD,zDD,List.take_succ_eq_append_getElem h,List.flatten_append]; simp
theorem zSf (Ls:List (List Val))(i:Nat):zDD (Ls.take i)≤zDD Ls:=by
 have:Ls.flatten=(Ls.take i).flatten++(Ls.drop i).flatten:=by rw[←List.flatten_append,List.take_append_drop]
 rw[zDD,zDD,this,List.length_append]; omega
theorem zLn (Ls:List (List Val))(hb:zDD Ls≤1000000):Ret Tryz.prog 168 [.sl Ls.length (zAE Ls)] [] (.sl (zDD Ls) (zW Ls.flatten)) []:=by
 refine zH Tryz.func168 rfl zUC (rs:=[.slot 2]) (by kernel_rfl) ?_;unfold zNz;simp;intro hl;refine qR (S:=Nat) (fun i=>[(0,.sl Ls.length (zAE Ls)),(3,int (zDD (Ls.take i))),(9,.sl Ls.length (zAE Ls)),(10,int Ls.length),(11,int i)]) (fun s=>[]) (fun i=>i≤Ls.length) (fun i=>Ls.length-i) 0 (by simp)
  (zP [] 0 (by simp) (by simp) (by simp) (by simp[zDD])) ?_
 intro i hi;by_cases h:i<Ls.length
 ·have ht:=zM7 h;have hle:=zSf Ls (i+1);have hw:IntKind.i64.wrap ((zDD (Ls.take i):Int)+(Ls[i].length:Int))=(zDD (Ls.take (i+1)):Nat):=by rw[ht]; push_cast; exact IntWalk.i64_in _ (by omega)
  have h0:¬((zDD (Ls.take (i+1)):Nat):Int)<0:=by omega
  simp[h,zHa h];intro _;simp[hw,h0];exact zS (i+1) h (by omega) (zP [] 0 (by simp) (by simp) (by simp) (by simp[qA h hl]))
 ·have hil:i=Ls.length:=by omega
  subst hil;have hI:¬(Ls.length:Int)<Ls.length:=by omega
  simp;refine zN (zOk (zDD Ls) hb) [] (by simp) (by simp) (by simp) ?_;simp;intro _;refine qR (S:=Nat) (fun i=>[(6,.row 0 (zDD (Ls.take i))),(25,.sl Ls.length (zAE Ls)),(26,int Ls.length),(27,int i)]) (fun i=>[.row false 47 3 (zDD (Ls.take i)) (zW (Ls.take i).flatten)]) (fun i=>i≤Ls.length) (fun i=>Ls.length-i) 0 (by simp)
   (zP [0] 0 (by simp) (by simp) (by simp[zDD]) (by simp[zDD])) ?_
  intro i hi;by_cases h:i<Ls.length
  ·have ht:=zM7 h;have hle:=zSf Ls (i+1);have hf:(Ls.take (i+1)).flatten=(Ls.take i).flatten++Ls[i]:=by rw[List.take_succ_eq_append_getElem h,List.flatten_append]; simp
   simp[h,zHa h];refine⟨⟨by simp[maxLen]; omega,by omega⟩,?_⟩;exact zS (i+1) h (by omega) (zP [0] 0 (by simp) (by simp) (by simp[ht,hf,zBP]) (by simp[ht,qA h hl]))
  ·have hil:i=Ls.length:=by omega
   subst hil;simp;exact zC 1 (by simp)
def qFN:K:=G [kMn 2] (G [kMn 3] (Z (G [M 6 0,kN 7 6,kMi 8 0] (K.block 0 (K.loop (G [kB 9 8 7 .lss] (Z (Y 9 ks (K.exit 0)) (Z (K.block 1 (G [kX 10 6 8 3,J 11 10 3,kZ 5 [ki,ki,kl],S 5 11 3] (G [D 12 5 2,L 13 12 1,kC 14 113 [(kt 13)],D 15 5 2,S 15 14 1] (K.ops [M 16 3,J 17 5 3,kd 18 47 3 1 [ki,ki,kl] [(0,3,(kt 17))],kP 19 47 3 40 16 18,M 3 19])))) (K.ops [kBi 20 8 1 .add,M 8 20]))))))) (G [M 21 3,M 2 21] kr)))
theorem qMr:zK Tryz.prog Tryz.f113.ntmps (Tryz.f113.body.getD .skip)=some qFN.erase:=by kernel_rfl
@[simp] theorem qNk:zA Tryz.prog 113=true:=by kernel_rfl
mutual
theorem zJK:∀(l:List Val),qN l≤1000000→Ret Tryz.prog 113 [.sl l.length (zW l)] [] (.sl l.length (zW l)) []
 | l,hz=>by
  have hl6:=zD5 l;refine zH Tryz.func113 rfl qMr (rs:=[.slot 2]) (by kernel_rfl) ?_;unfold qFN;simp;intro hl;refine qR (S:=Nat) (fun i=>[(3,.row 0 i),(6,.sl l.length (zW l)),(7,int l.length),(8,int i)]) (fun i=>[.row false 47 3 i (zW (l.take i))]) (fun i=>i≤l.length) (fun i=>l.length-i) 0 (by simp)
   ((jV (t:=3) (by simp) 47 3).trans (zP [0] 0 (by simp) (by simp) (by simp) (by simp))) ?_
  intro i hi;by_cases h:i<l.length
  ·have hk:=zIG l hz l[i] (List.getElem_mem h);have ht:zW (l.take (i+1))=zW (l.take i)++[.lit (.int .i64 l[i].k),.lit (.int .i64 l[i].n),.sl l[i].kids.length (zW l[i].kids)]:=by rw[List.take_succ_eq_append_getElem h,zBP]; simp
   simp[h,jY h];refine zR hk (by simp) (by simp) ?_;simp;refine⟨⟨by simp[maxLen]; omega,by omega⟩,?_⟩;exact zS (i+1) h (by omega) (zP [0] 0 (by simp) (by simp) (by simp[ht]) (by simp[qA h hl]))
  ·have hil:i=l.length:=by omega
   subst hil;simp;exact zC 1 (by simp)
theorem zIG:∀(l:List Val),qN l≤1000000→∀x∈l,Ret Tryz.prog 113 [.sl x.kids.length (zW x.kids)] [] (.sl x.kids.length (zW x.kids)) []
 | [],_,x,h=>by simp at h
 | .mk k n ks::l,hz,x,h=>by
  simp only[qN,qC]at hz
  if e:x∈l then exact zIG l (by omega) x e
  else
   have:x=.mk k n ks:=(List.mem_cons.1 h).resolve_right e;subst this;exact zJK ks (by omega)
end
def qFR:K:=G [kZ 4 [ki,ki,kl]] (Z (G [M 7 0,kBi 8 7 0 .geq,M 9 8,T 9 true (M 10 0),T 9 true (kBi 11 10 5 .lss),kPf 12 9 11,M 13 12,T 13 true (M 14 1),T 13 true (kN 15 14),T 13 true (kQi 16 15 2 false),kPf 17 13 16] (Y 17 (Z (K.dops [(0,0,M 18 0),(1,0,⟨none,.idxarr (some 19) (.global 0) (kt 18) 5 1⟩),(2,0,L 20 19 1),(3,0,M 21 1),(4,0,kXi 22 21 3 0),(5,0,D 23 22 1),(6,0,L 24 23 1),(7,0,M 25 1),(8,0,kXi 26 25 3 1),(9,0,D 27 26 1),(10,0,L 28 27 1),(11,0,⟨none,.call (some 29) (kt 20) [(kt 24),(kt 28)]⟩),(12,0,kb 30 [ki,ki,kl] [(1,1,(kt 29))]),(13,0,S 4 30 3)]) kr) ks)) (Z (K.block 0 (G [M 32 0,kQi 33 32 9 false,M 34 33,T 34 true (M 35 1),T 34 true (kN 36 35),T 34 true (kQi 37 36 1 false),kPf 38 34 37,M 31 38] (Y 31 (G [M 39 1,kXi 40 39 3 0,D 41 40 1,L 42 41 1,kQi 43 42 0 false,kC 44 162 [(kt 43)],S 4 44 3] kr) (G [M 46 0,kQi 47 46 11 false,M 48 47,T 48 true (M 49 1),T 48 true (kN 50 49),T 48 true (kQi 51 50 1 false),kPf 52 48 51,M 45 52] (Y 45 (G [M 53 1,kXi 54 53 3 0,D 55 54 2,L 56 55 1,kN 57 56,kb 58 [ki,ki,kl] [(1,1,(kt 57))],S 4 58 3] kr) (G [M 60 1,kN 61 60,kQi 62 61 2 true,M 59 62] (Y 59 (G [kb 63 [ki,ki,kl] [],S 4 63 3] kr) ks))))))) (Z (K.wk (K.dops [(0,0,M 64 1),(1,2,kXi 65 64 3 0),(2,2,J 66 65 3),(3,0,M 67 1),(4,2,kXi 68 67 3 1),(5,2,J 69 68 3),(6,301,⟨none,.alr (some 5) 1 [ki,ki,kl]⟩),(7,302,⟨none,.alr (some 6) 2 [ki,ki,kl]⟩),(8,0,S 5 66 3),(9,0,S 6 69 3)])) (Z (G [M 70 0] (K.block 1 (G [kQi 72 70 5 false,M 71 72] (Y 71 (G [D 73 5 1,L 74 73 1,D 75 6 1,
 L 76 75 1,kB 77 74 76 .lss,kC 78 162 [(kt 77)],S 4 78 3] kr) (G [kQi 80 70 6 false,M 79 80] (Y 79 (G [J 81 5 3,J 82 6 3,kC 83 167 [(kt 81),(kt 82)],kQi 84 83 0 false,kC 85 162 [(kt 84)],S 4 85 3] kr) (G [kQi 87 70 7 false,M 86 87] (Y 86 (G [D 88 5 1,L 89 88 1,kQi 90 89 0 true,M 91 90,T 91 true (D 92 6 1),T 91 true (L 93 92 1),T 91 true (kQi 94 93 0 true),kPf 95 91 94,kC 96 162 [(kt 95)],S 4 96 3] kr) (G [kQi 98 70 8 false,M 97 98] (Y 97 (G [D 99 5 1,L 100 99 1,kQi 101 100 0 true,M 102 101,T 102 false (D 103 6 1),T 102 false (L 104 103 1),T 102 false (kQi 105 104 0 true),kPt 106 102 105,kC 107 162 [(kt 106)],S 4 107 3] kr) (G [kQi 109 70 10 false,M 108 109] (Y 108 (G [D 110 5 2,L 111 110 1,D 112 6 2,L 113 112 1,kd 114 40 1 2 [kl,kl] [(0,1,(kt 111)),(1,1,(kt 113))],kC 115 168 [(kt 114)],kC 116 113 [(kt 115)],kb 117 [ki,ki,kl] [(0,1,(kc 4)),(2,1,(kt 116))],S 4 117 3] kr) ks)))))))))))) (G [kb 118 [ki,ki,kl] [],S 4 118 3] kr)))))
def qOE:Nat→Option (List (Nat×Nat)):=fun r=>match r with | 9=>some [(0,0),(1,2),(2,2),(3,0),(4,2),(5,2),(6,301),(7,302),(8,0),(9,0)] | _=>none
theorem qMv:qD Tryz.prog Tryz.f145.ntmps qOE (Tryz.f145.body.getD .skip)=some qFR.erase:=by kernel_rfl
@[simp] theorem qNo:zA Tryz.prog 145=true:=by kernel_rfl
@[simp] theorem qJH (b:Bool):(zBL b).k=1:=rfl
@[simp] theorem qJI (b:Bool):(zBL b).n=if b then 1 else 0:=rfl
@[simp] theorem qBa (b:Bool):(zBL b).kids=[]:=rfl
@[simp] theorem qCq {env:Env}:ev env (.global 0)=.rptr [.clo 199 [] [],.clo 201 [] [],.clo 202 [] [],.clo 203 [] [],.clo 204 [] []]:=rfl
theorem yI:2≤maxLen:=by simp[maxLen]
theorem zCq:1≤maxLen:=by simp[maxLen]
set_option maxHeartbeats 2000000 in
theorem qCn {p:Prg}{n:Int}{ts:List Typ}{t:Typ}(h:OpT n ts t){vs:List Val}(hv:TyL p ts vs)(hs:∀v∈vs,qC v≤256):Ret Tryz.prog 145 [int n,.sl vs.length (zW vs)] [] (.agg (zQ (opV n vs))) []:=by
 refine zI Tryz.func145 rfl qMv (rs:=[.cell 4 3 true]) (by kernel_rfl) ?_;unfold qFR;cases h with
 | arith n h1 h2 =>
  obtain⟨a,b,rfl,ha,hb⟩:=hv.two;obtain⟨x,rfl,hx⟩:=ha.int_inv;obtain⟨y,rfl,hy⟩:=hb.int_inv;have e:opV n [.mk 0 x [],.mk 0 y []]=.mk 0 (zLv n x y) []:=by simp only[opV,if_pos h2]; rfl
  rw[e];have hn:n=0∨n=1∨n=2∨n=3∨n=4:=by omega
  rcases hn with rfl | rfl | rfl | rfl | rfl
  ·simp[Val.k,Val.n,Val.kids,yI,zCq];refine qM (zXM hx hy) (by simp) (by simp) ?_;simp;exact zC 0 (by simp[zQ,Val.k,Val.n,Val.kids,zLv])
  ·simp[Val.k,Val.n,Val.kids,yI,zCq];refine qM (zYf hx hy) (by simp) (by simp) ?_;simp;exact zC 0 (by simp[zQ,Val.k,Val.n,Val.kids,zLv])
  ·simp[Val.k,Val.n,Val.kids,yI,zCq];refine qM (zSI hx hy) (by simp) (by simp) ?_;simp;exact zC 0 (by simp[zQ,Val.k,Val.n,Val.kids,zLv])
  ·simp[Val.k,Val.n,Val.kids,yI,zCq];refine qM (zJL hx hy) (by simp) (by simp) ?_;simp;exact zC 0 (by simp[zQ,Val.k,Val.n,Val.kids,zLv])
  ·simp[Val.k,Val.n,Val.kids,yI,zCq];refine qM (zV4 hx hy) (by simp) (by simp) ?_;simp;exact zC 0 (by simp[zQ,Val.k,Val.n,Val.kids,zLv])
 | less =>
  obtain⟨a,b,rfl,ha,hb⟩:=hv.two;obtain⟨x,rfl,hx⟩:=ha.int_inv;obtain⟨y,rfl,hy⟩:=hb.int_inv;simp[Val.k,Val.n,Val.kids,yI,zCq];refine⟨_,_,yZ 2,?_⟩;simp[Val.k,Val.n,Val.kids,yI,zCq];refine zR (zAW (decide (x<y))) (by simp) (by simp[zQ]) ?_;simp[zQ];exact zC 0 (by by_cases hx0:x<y<;>simp[zQ,opV,jE,hx0])
 | same u =>
  obtain⟨a,b,rfl,ha,hb⟩:=hv.two;simp[yI];refine⟨_,_,yZ 2,?_⟩;simp[yI];refine zR (zRw a b) (by simp[zQ]) (by simp) ?_;simp;refine zR (zAW (decide (zJf a b=0))) (by simp) (by simp[zQ]) ?_;simp[zQ];exact zC 0 (by simp[zQ,opV])
 | andor n h =>
  obtain⟨a,b,rfl,ha,hb⟩:=hv.two;obtain⟨x,rfl,hx⟩:=ha.bool_inv;obtain⟨y,rfl,hy⟩:=hb.bool_inv;rcases h with rfl | rfl
  ·rcases hx with rfl | rfl<;>rcases hy with rfl | rfl
   ·simp[Val.k,Val.n,Val.kids,yI];refine⟨_,_,yZ 2,?_⟩;simp[Val.k,Val.n,Val.kids,yI];refine zR (zAW false) (by simp) (by simp[zQ]) ?_;simp[zQ];exact zC 0 (by simp[zQ,opV,jE])
   ·simp[Val.k,Val.n,Val.kids,yI];refine⟨_,_,yZ 2,?_⟩;simp[Val.k,Val.n,Val.kids,yI];refine zR (zAW false) (by simp) (by simp[zQ]) ?_;simp[zQ];exact zC 0 (by simp[zQ,opV,jE])
   ·simp[Val.k,Val.n,Val.kids,yI];refine⟨_,_,yZ 2,?_⟩;simp[Val.k,Val.n,Val.kids,yI];refine zR (zAW false) (by simp) (by simp[zQ]) ?_;simp[zQ];exact zC 0 (by simp[zQ,opV,jE])
   ·simp[Val.k,Val.n,Val.kids,yI];refine⟨_,_,yZ 2,?_⟩;simp[Val.k,Val.n,Val.kids,yI];refine zR (zAW true) (by simp) (by simp[zQ]) ?_;simp[zQ];exact zC 0 (by simp[zQ,opV,jE])
  ·rcases hx with rfl | rfl<;>rcases hy with rfl | rfl
   ·simp[Val.k,Val.n,Val.kids,yI];refine⟨_,_,yZ 2,?_⟩;simp[Val.k,Val.n,Val.kids,yI];refine zR (zAW false) (by simp) (by simp[zQ]) ?_;simp[zQ];exact zC 0 (by simp[zQ,opV,jE])
   ·simp[Val.k,Val.n,Val.kids,yI];refine⟨_,_,yZ 2,?_⟩;simp[Val.k,Val.n,Val.kids,yI];refine zR (zAW true) (by simp) (by simp[zQ]) ?_;simp[zQ];exact zC 0 (by simp[zQ,opV,jE])
   ·simp[Val.k,Val.n,Val.kids,yI];refine⟨_,_,yZ 2,?_⟩;simp[Val.k,Val.n,Val.kids,yI];refine zR (zAW true) (by simp) (by simp[zQ]) ?_;simp[zQ];exact zC 0 (by simp[zQ,opV,jE])
   ·simp[Val.k,Val.n,Val.kids,yI];refine⟨_,_,yZ 2,?_⟩;simp[Val.k,Val.n,Val.kids,yI];refine zR (zAW true) (by simp) (by simp[zQ]) ?_;simp[zQ];exact zC 0 (by simp[zQ,opV,jE])
 | not =>
  obtain⟨a,rfl,ha⟩:=hv.one;obtain⟨x,rfl,hx⟩:=ha.bool_inv;simp[Val.k,Val.n,Val.kids,yI,zCq];refine zR (zAW (decide (x=0))) (by simp) (by simp[zQ]) ?_;simp[zQ];exact zC 0 (by by_cases hx0:x=0<;>simp[zQ,opV,jE,hx0])
 | join u =>
  obtain⟨a,b,rfl,ha,hb⟩:=hv.two;have h1:=hs a (by simp);have h2:=hs b (by simp);cases a with | mk k1 n1 l1 =>
  cases b with | mk k2 n2 l2 =>
  simp only[qC]at h1 h2;have z1:=zD5 l1;have z2:=zD5 l2;have hc:Ret Tryz.prog 168 [.sl 2 [.sl l1.length (zW l1),.sl l2.length (zW l2)]] [] (.sl (l1.length+l2.length) (zW (l1++l2))) []:=by simpa [zAE,zDD] using zLn [l1,l2] (by simp[zDD]; omega)
  have hk:=zJK (l1++l2) (by rw[zBT]; omega);rw[List.length_append]at hk;simp[Val.k,Val.n,Val.kids,yI,zCq];refine⟨_,_,yZ 2,?_⟩;simp[Val.k,Val.n,Val.kids,yI,zCq];refine zR hc (by simp) (by simp) ?_;simp;refine zR hk (by simp) (by simp) ?_;simp;exact zC 0 (by simp[zQ,opV,Val.k,Val.n,Val.kids])
 | len u =>
  obtain⟨a,rfl,ha⟩:=hv.one;simp[zCq];exact fun _=>zC 0 (by simp[zQ,opV,Val.k,Val.n,Val.kids])
@[simp] theorem qOf:zA Tryz.prog 18=true:=by kernel_rfl
structure FineD (d:Dfn):Prop where
 s1:1≤d.slots.length
 s6:d.slots.length≤6
 nice:d.body.nice
 size:(tmps d.body).length≤32768
theorem FineP.get {p:Prg}(h:FineP p):∀d∈p.defs,FineD d:=fun d hd=>⟨(h.slots d hd).1,(h.slots d hd).2,h.nice d hd,h.size d hd⟩
theorem FineP.mk' {p:Prg}(h1:p.defs.length≤9)(h2:p.mods.length≤100)(h:∀d∈p.defs,FineD d):FineP p:=⟨h1,h2,fun d hd=>⟨(h d hd).s1,(h d hd).s6⟩,fun d hd=>(h d hd).nice,fun d hd=>(h d hd).size⟩
theorem FineD.tweak {d:Dfn}(h:FineD d)(a x:Int):FineD (d.wb (zA2 d.body a x).1):=by have:=zKT x d.body a h.nice;exact⟨h.s1,h.s6,this.1,by have:=this.2; have:=h.size; simp only[Dfn.wb]; omega⟩
@[simp] theorem qND:zA Tryz.prog 179=true:=by kernel_rfl
@[simp] theorem qNJ:zA Tryz.prog 178=true:=by kernel_rfl
@[simp] theorem qNI:zA Tryz.prog 161=true:=by kernel_rfl
end Go.Proofs.YthglhccibdlccaaGreatDoor
