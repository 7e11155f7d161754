/-
  eval: values, nodes.
  The reference's evaluator: values.
  The reference's tracer: nodes.
  The reference: what the types of a definition's slots reach.
  Programs that differ in names alone: the same types, the same runs, and nothing has changed.
  A run with less fuel does the same, until it has no more.
  eval: nodes; the evaluator does what the data says.
  The reference's evaluator: nodes.
  Tweaked programs: they stay sound, and their nodes keep their IDs.
  eval.do: the closure that recovers.
  The reference's Call.
  Tweaked programs are sound; each ID is that of one node.
  eval.do: an evaluation whose failure is recovered.
  The reference tracer's Call returns what the program's does.
-/
import Derived.Test.YthglhccibdlccaaGreatDoorX21
import Derived.Test.YthglhccibdlccaaGreatDoorX20
import Derived.Test.YthglhccibdlccaaGreatDoorX17
import Derived.Test.YthglhccibdlccaaGreatDoorX11
import Derived.RecoverIn
import Derived.Tactics
import Derived.Tactics2
set_option linter.unusedVariables false
set_option maxHeartbeats 8000000
set_option maxRecDepth 100000
set_option linter.unusedSimpArgs false
namespace Go.Proofs.YthglhccibdlccaaGreatDoor
open Go.Abs
section
variable {p:Prg}{F m:Int}{ev:Evl}{B:List Bnd}{e:Exp}{V:List EVar}{v:Val}{s:XS}
def zF9:K:=G [kO 4 1,kZ 6 [ki,ki,kl]] (Z (G [D 9 4 3,L 10 9 1] (K.block 0 (G [kQi 12 10 0 false,M 11 12] (Y 11 (G [D 13 4 4,L 14 13 1,kb 15 [ki,ki,kl] [(1,1,(kt 14))],S 6 15 3] kr) (G [kQi 17 10 1 false,M 16 17] (Y 16 (G [D 18 4 4,L 19 18 1,kQi 20 19 0 true,kC 21 162 [(kt 20)],S 6 21 3] kr) (G [kQi 23 10 2 false,M 22 23] (Y 22 (G [M 24 2,D 25 4 5,J 26 25 3,D 27 4 4,L 28 27 1,kb 29 zGW [(0,3,(kt 26)),(3,1,(kt 28))],kC 30 163 [(kt 24),(kt 29)],S 6 30 3] kr) (G [kQi 32 10 3 false,M 31 32] (Y 31 (Z (K.dops [(0,0,M 34 0),(1,0,kU 35 34),(2,1,D 36 35 0),(3,1,J 37 36 2),(4,1,D 38 4 5),(5,1,J 39 38 3),(6,1,kC 40 42 [(kt 37),(kt 39)]),(7,0,M 33 40),(8,0,kE 41 33 0),(9,0,kE 42 33 1),(10,0,kZ 7 kz0),(11,0,S 7 41 31),(12,0,M 8 42)]) (Z (K.wk (K.dops [(0,0,M 43 0),(1,2,J 44 7 31),(2,0,M 45 0),(3,0,D 46 4 13),(4,0,L 47 46 1),(5,0,M 48 2),(6,10,kC 49 164 [(kt 45),(kt 47),(kt 48)]),(7,10,kC 50 68 [(kt 43),(kt 44),(kt 49)]),(8,0,S 6 50 3)])) kr)) (G [kQi 52 10 4 false,M 51 52] (Y 51 (Z (K.wk (K.dops [(0,2,D 53 4 4),(1,2,L 54 53 1),(2,0,M 55 0),(3,0,D 56 4 13),(4,0,L 57 56 1),(5,0,M 58 2),(6,10,kC 59 164 [(kt 55),(kt 57),(kt 58)]),(7,0,kC 60 145 [(kt 54),(kt 59)]),(8,0,S 6 60 3)])) kr) (G [kQi 62 10 7 false,M 61 62] (Y 61 (G [M 63 0,D 64 4 13,L 65 64 1,M 66 2,kC 67 164 [(kt 63),(kt 65),(kt 66)],kb 68 [ki,ki,kl] [(0,1,(kc 2)),(2,1,(kt 67))],S 6 68 3] kr) (G [kQi 70 10 9 false,M 69 70] (Y 69 (Z (K.wk (K.dops [(0,2,D 71 4 4),(1,2,L 72 71 1),(2,0,M 73 0),(3,0,D 74 4 13),(4,0,L 75 74 1),(5,0,
 M 76 2),(6,10,kC 77 164 [(kt 73),(kt 75),(kt 76)]),(7,0,kb 78 [ki,ki,kl] [(0,1,(kc 3)),(1,1,(kt 72)),(2,1,(kt 77))]),(8,0,S 6 78 3)])) kr) (G [kQi 80 10 11 false,M 79 80] (Y 79 (G [M 81 0,D 82 4 13,L 83 82 1,M 84 2,kC 85 164 [(kt 81),(kt 83),(kt 84)],kb 86 [ki,ki,kl] [(0,1,(kc 4)),(2,1,(kt 85))],S 6 86 3] kr) ks)))))))))))))))))) (Z (K.wk (K.dops [(0,0,M 87 0),(1,2,J 88 4 15),(2,0,M 89 2),(3,0,M 90 0),(4,0,D 91 4 13),(5,0,L 92 91 1),(6,0,kXi 93 92 15 0),(7,0,J 94 93 15),(8,0,M 95 2),(9,10,kC 96 115 [(kt 90),(kt 94),(kt 95)]),(10,10,kC 97 165 [(kt 87),(kt 88),(kt 89),(kt 96)]),(11,0,S 6 97 3)])) kr))
def qQC:Nat→Option (List (Nat×Nat)):=fun r=>match r with | 10=>some [(0,0),(1,2),(2,0),(3,0),(4,0),(5,0),(6,10),(7,10),(8,0)] | 12=>some [(0,2),(1,2),(2,0),(3,0),(4,0),(5,0),(6,10),(7,0),(8,0)] | 16=>some [(0,2),(1,2),(2,0),(3,0),(4,0),(5,0),(6,10),(7,0),(8,0)] | 19=>some [(0,0),(1,2),(2,0),(3,0),(4,0),(5,0),(6,0),(7,0),(8,0),(9,10),(10,10),(11,0)] | _=>none
theorem zFK:qD Tryz.prog Tryz.f140.ntmps qQC (Tryz.f140.body.getD .skip)=some zF9.erase:=by kernel_rfl
@[simp] theorem qPk:zA Tryz.prog 140=true:=by kernel_rfl
abbrev VaE (p:Prg)(F:Int)(e:Exp)(V:List EVar)(s:XS)(r:Val×XS):Prop:=RP 140 [.ptr 0 0,.agg (zF e),scE V] p F s (.agg (zJ r.1)) r.2
abbrev AlE (p:Prg)(F:Int)(e:Exp)(V:List EVar)(s:XS)(r:List Val×XS):Prop:=RP 164 [.ptr 0 0,.sl e.kids.length (qL e.kids),scE V] p F s (.sl e.kids.length (zV r.1)) r.2
@[simp] theorem qFt {σ : St}:zD8 2 σ = []:=rfl
theorem zZh (hs:s.fail=0)(hk:e.k=0):VaE p F e V s (.mk 0 e.n [],s):=by have hP:=eP p;refine⟨fun _=>?_,fun hf=>(hf hs).elim⟩;refine zI Tryz.func140 rfl zFK (rs:=[.cell 6 3 true]) (by kernel_rfl) ?_;unfold zF9;simp[eS,hP,zF,hk];exact zG [0] 0 (by decide) (by simp) (by simp) (by simp[zJ,qG,zZ,zM])
theorem zW3 (hs:s.fail=0)(hk:e.k=1)(hn:e.n=0∨e.n=1):VaE p F e V s (.mk 1 e.n [],s):=by
 have hP:=eP p;have ht:zBV (decide (¬e.n=0))=.mk 1 e.n []:=by rcases hn with h | h<;>rw[h]<;>rfl
 refine⟨fun _=>?_,fun hf=>(hf hs).elim⟩;have hb:=zAT (decide (¬e.n=0));rw[ht]at hb;refine zI Tryz.func140 rfl zFK (rs:=[.cell 6 3 true]) (by kernel_rfl) ?_;unfold zF9;simp[eS,hP,zF,hk];refine zT hb (by simp) (by simp[zJ]) ?_;simp[eS,hP,zJ];exact zG [0] 0 (by decide) (by simp) (by simp) (by simp[zJ,qG,zZ,zM])
theorem zZj (hs:s.fail=0)(hk:e.k=2):VaE p F e V s (zE5 V e.ref e.n,s):=by
 have hP:=eP p;have hfi:=zWm V.reverse e.ref e.n;have hfe:zJK V.reverse e.ref e.n=zE5 V e.ref e.n:=rfl;rw[hfe]at hfi;generalize zE5 V e.ref e.n=v at *
 refine⟨fun _=>?_,fun hf=>(hf hs).elim⟩;refine zI Tryz.func140 rfl zFK (rs:=[.cell 6 3 true]) (by kernel_rfl) ?_;unfold zF9;simp[eS,hP,zF,hk];refine zT hfi (by simp[jF]) (by simp[zJ]) ?_;simp[eS,hP,zJ];exact zG [0] 0 (by decide) (by simp) (by simp) (by simp[zJ,qG,zZ,zM])
theorem qD0 {a:Exp}{ks:List Exp}(hk:e.k=5∨e.k=6∨e.k=8∨e.k=10∨e.k=12)(hks:e.kids=a::ks){r1 r:Val×XS}(ha:zMr p F a V s r1)(hb:r1.2.fail=0→BrE p F e V r1.1 r1.2 r)(hx:r1.2.fail≠0→r.2=r1.2):VaE p F e V s r:=by
 have hP:=eP p;have hk0:¬e.k=0:=by omega
 have hk1:¬e.k=1:=by omega
 have hk2:¬e.k=2:=by omega
 have hk3:¬e.k=3:=by omega
 have hk4:¬e.k=4:=by omega
 have hk7:¬e.k=7:=by omega
 have hk9:¬e.k=9:=by omega
 have hk11:¬e.k=11:=by omega
 have h15:=zH a ks;by_cases h1:r1.2.fail=0
 ·have hb:=hb h1;have ha:=ha.ret h1;constructor
  ·intro hf;refine zI Tryz.func140 rfl zFK (rs:=[.cell 6 3 true]) (by kernel_rfl) ?_;unfold zF9;simp[eS,hP,zF,hk0,hk1,hk2,hk3,hk4,hk7,hk9,hk11];refine⟨_,_,zR (l:=[(0,.ptr 0 0),(2,scE V),(4,.rptr [int e.id.a,int e.id.b,int e.id.c,int e.k,int e.n,int e.ref.a,int e.ref.b,int e.ref.c,int e.typ.k,int e.typ.id.a,int e.typ.id.b,int e.typ.id.c,.sl e.typ.kids.length (jH e.typ.kids),.sl e.kids.length (qL e.kids),.sl e.names.length (yK e.names)]),(6,.ptr 1 0)]) (σ':=eS p F s++[.box [int 0,int 0,.nil]]) [0,2] 1 (by decide) (by simp) (by simp[eS,hP]) (by simp[eS,hP,zF]),?_⟩;simp[eS,hP,zF,hks,h15];refine zCl ha [0] (by decide) (by simp[eS,hP]) (by simp[zF]) ?_;simp[eS,hP,zJ];refine zCl (hb.ret hf) [0] (by decide) (by simp[eS,hP]) (by simp[zF,zJ,hks,h15]) ?_;simp[eS,hP,zJ];exact zG [0] 0 (by decide) (by simp) (by simp) (by simp[zJ,qG,zZ,zM])
  ·intro hf;refine zAp Tryz.func140 rfl zFK (rs:=[.cell 6 3 true]) (by kernel_rfl) ?_;unfold zF9 wpF;simp[eS,hP,zF,hk0,hk1,hk2,hk3,hk4,hk7,hk9,hk11];refine⟨_,_,zR (l:=[(0,.ptr 0 0),(2,scE V),(4,.rptr [int e.id.a,int e.id.b,int e.id.c,int e.k,int e.n,int e.ref.a,int e.ref.b,int e.ref.c,int e.typ.k,int e.typ.id.a,int e.typ.id.b,int e.typ.id.c,.sl e.typ.kids.length (jH e.typ.kids),.sl e.kids.length (qL e.kids),.sl e.names.length (yK e.names)]),(6,.ptr 1 0)]) (σ':=eS p F s++[.box [int 0,int 0,.nil]]) [0,2] 1 (by decide) (by simp) (by simp[eS,hP]) (by simp[eS,hP,zF]),?_⟩;simp[eS,hP,zF,hks,h15];refine zCl ha [0] (by decide) (by simp[eS,hP]) (by simp[zF]) ?_;simp[eS,hP,zJ];refine zD2 (hb.pan hf) [0] (by decide) (by simp[eS,hP]) (by simp[zF,zJ,hks,h15]) fun τ=>?_
   simp
 ·unfold VaE;rw[hx h1];refine⟨fun hf=>(h1 hf).elim,fun hf=>?_⟩;refine zAp Tryz.func140 rfl zFK (rs:=[.cell 6 3 true]) (by kernel_rfl) ?_;unfold zF9 wpF;simp[eS,hP,zF,hk0,hk1,hk2,hk3,hk4,hk7,hk9,hk11];refine⟨_,_,zR (l:=[(0,.ptr 0 0),(2,scE V),(4,.rptr [int e.id.a,int e.id.b,int e.id.c,int e.k,int e.n,int e.ref.a,int e.ref.b,int e.ref.c,int e.typ.k,int e.typ.id.a,int e.typ.id.b,int e.typ.id.c,.sl e.typ.kids.length (jH e.typ.kids),.sl e.kids.length (qL e.kids),.sl e.names.length (yK e.names)]),(6,.ptr 1 0)]) (σ':=eS p F s++[.box [int 0,int 0,.nil]]) [0,2] 1 (by decide) (by simp) (by simp[eS,hP]) (by simp[eS,hP,zF]),?_⟩;simp[eS,hP,zF,hks,h15];refine zD2 (ha.pan hf) [0] (by decide) (by simp[eS,hP]) (by simp[zF]) fun τ=>?_
  simp
theorem zZi {vs:List Val}{s1:XS}(hk:e.k=7)(hl:vs.length=e.kids.length)(ha:AlE p F e V s (vs,s1)):VaE p F e V s (.mk 2 0 vs,s1):=by
 have hP:=eP p;constructor
 ·intro hf;refine zI Tryz.func140 rfl zFK (rs:=[.cell 6 3 true]) (by kernel_rfl) ?_;unfold zF9;simp[eS,hP,zF,hk];refine zN (ha.ret hf) [0] (by decide) (by simp[eS,hP]) (by simp) ?_;simp[eS,hP,zJ];exact zG [0] 0 (by decide) (by simp) (by simp) (by simp[zJ,qG,zZ,zM,hl])
 ·intro hf;refine zAp Tryz.func140 rfl zFK (rs:=[.cell 6 3 true]) (by kernel_rfl) ?_;unfold zF9 wpF;simp[eS,hP,zF,hk];refine zHN (ha.pan hf) [0] (by decide) (by simp[eS,hP]) (by simp) fun τ=>?_
  simp
theorem zW6 {vs:List Val}{s1:XS}(hk:e.k=11)(hl:vs.length=e.kids.length)(ha:AlE p F e V s (vs,s1)):VaE p F e V s (.mk 4 0 vs,s1):=by
 have hP:=eP p;constructor
 ·intro hf;refine zI Tryz.func140 rfl zFK (rs:=[.cell 6 3 true]) (by kernel_rfl) ?_;unfold zF9;simp[eS,hP,zF,hk];refine zN (ha.ret hf) [0] (by decide) (by simp[eS,hP]) (by simp) ?_;simp[eS,hP,zJ];exact zG [0] 0 (by decide) (by simp) (by simp) (by simp[zJ,qG,zZ,zM,hl])
 ·intro hf;refine zAp Tryz.func140 rfl zFK (rs:=[.cell 6 3 true]) (by kernel_rfl) ?_;unfold zF9 wpF;simp[eS,hP,zF,hk];refine zHN (ha.pan hf) [0] (by decide) (by simp[eS,hP]) (by simp) fun τ=>?_
  simp
theorem zW5 {vs:List Val}{s1:XS}(hk:e.k=9)(hl:vs.length=e.kids.length)(ha:AlE p F e V s (vs,s1)):VaE p F e V s (.mk 3 e.n vs,s1):=by
 have hP:=eP p;constructor
 ·intro hf;refine zI Tryz.func140 rfl zFK (rs:=[.cell 6 3 true]) (by kernel_rfl) ?_;unfold zF9;simp[eS,hP,zF,hk];refine⟨_,_,zR (l:=[(0,.ptr 0 0),(2,scE V),(4,.rptr [int e.id.a,int e.id.b,int e.id.c,int e.k,int e.n,int e.ref.a,int e.ref.b,int e.ref.c,int e.typ.k,int e.typ.id.a,int e.typ.id.b,int e.typ.id.c,.sl e.typ.kids.length (jH e.typ.kids),.sl e.kids.length (qL e.kids),.sl e.names.length (yK e.names)]),(6,.ptr 1 0)]) (σ':=eS p F s++[.box [int 0,int 0,.nil]]) [0,2] 1 (by decide) (by simp) (by simp[eS,hP]) (by simp[eS,hP,zF,hk]),?_⟩;simp[eS,hP,zF,hk];refine zCl (ha.ret hf) [0] (by decide) (by simp[eS,hP]) (by simp) ?_;simp[eS,hP,zJ];exact zG [0] 0 (by decide) (by simp) (by simp) (by simp[zJ,qG,zZ,zM,hl])
 ·intro hf;refine zAp Tryz.func140 rfl zFK (rs:=[.cell 6 3 true]) (by kernel_rfl) ?_;unfold zF9 wpF;simp[eS,hP,zF,hk];refine⟨_,_,zR (l:=[(0,.ptr 0 0),(2,scE V),(4,.rptr [int e.id.a,int e.id.b,int e.id.c,int e.k,int e.n,int e.ref.a,int e.ref.b,int e.ref.c,int e.typ.k,int e.typ.id.a,int e.typ.id.b,int e.typ.id.c,.sl e.typ.kids.length (jH e.typ.kids),.sl e.kids.length (qL e.kids),.sl e.names.length (yK e.names)]),(6,.ptr 1 0)]) (σ':=eS p F s++[.box [int 0,int 0,.nil]]) [0,2] 1 (by decide) (by simp) (by simp[eS,hP]) (by simp[eS,hP,zF,hk]),?_⟩;simp[eS,hP,zF,hk];refine zD2 (ha.pan hf) [0] (by decide) (by simp[eS,hP]) (by simp) fun τ=>?_
  simp
theorem qD1 {ts:List Typ}{t:Typ}{vs:List Val}{s1:XS}(hk:e.k=4)(ho:s1.fail=0→OpT e.n ts t∧TyL p ts vs∧∀v∈vs,qI v≤256)(hl:vs.length=e.kids.length)(ha:AlE p F e V s (vs,s1)):VaE p F e V s (opV e.n vs,s1):=by
 have hP:=eP p;constructor
 ·intro hf;obtain⟨ho,hv,hs⟩:=ho hf;have hop:=zWz ho hv hs;generalize opV e.n vs=r at *
  refine zI Tryz.func140 rfl zFK (rs:=[.cell 6 3 true]) (by kernel_rfl) ?_;unfold zF9;simp[eS,hP,zF,hk];refine⟨_,_,zR (l:=[(0,.ptr 0 0),(2,scE V),(4,.rptr [int e.id.a,int e.id.b,int e.id.c,int e.k,int e.n,int e.ref.a,int e.ref.b,int e.ref.c,int e.typ.k,int e.typ.id.a,int e.typ.id.b,int e.typ.id.c,.sl e.typ.kids.length (jH e.typ.kids),.sl e.kids.length (qL e.kids),.sl e.names.length (yK e.names)]),(6,.ptr 1 0)]) (σ':=eS p F s++[.box [int 0,int 0,.nil]]) [0,2] 1 (by decide) (by simp) (by simp[eS,hP]) (by simp[eS,hP,zF,hk]),?_⟩;simp[eS,hP,zF,hk];refine zCl (ha.ret hf) [0] (by decide) (by simp[eS,hP]) (by simp) ?_;simp[eS,hP];refine qK hop (by simp[hl]) (by simp[zJ]) ?_;simp[eS,hP,zJ];exact zG [0] 0 (by decide) (by simp) (by simp) (by simp[zJ,qG,zZ,zM])
 ·intro hf;refine zAp Tryz.func140 rfl zFK (rs:=[.cell 6 3 true]) (by kernel_rfl) ?_;unfold zF9 wpF;simp[eS,hP,zF,hk];refine⟨_,_,zR (l:=[(0,.ptr 0 0),(2,scE V),(4,.rptr [int e.id.a,int e.id.b,int e.id.c,int e.k,int e.n,int e.ref.a,int e.ref.b,int e.ref.c,int e.typ.k,int e.typ.id.a,int e.typ.id.b,int e.typ.id.c,.sl e.typ.kids.length (jH e.typ.kids),.sl e.kids.length (qL e.kids),.sl e.names.length (yK e.names)]),(6,.ptr 1 0)]) (σ':=eS p F s++[.box [int 0,int 0,.nil]]) [0,2] 1 (by decide) (by simp) (by simp[eS,hP]) (by simp[eS,hP,zF,hk]),?_⟩;simp[eS,hP,zF,hk];refine zD2 (ha.pan hf) [0] (by decide) (by simp[eS,hP]) (by simp) fun τ=>?_
  simp
theorem zW4 {d:Dfn}{vs:List Val}{s1:XS}{r:Val×XS}(hk:e.k=3)(hd:jO p.defs e.ref=some d)(hl:vs.length=e.kids.length)(ha:AlE p F e V s (vs,s1))
 (hb:s1.fail=0→RP 68 [.ptr 0 0,.agg (zO d),.sl vs.length (zV vs)] p F s1 (.agg (zJ r.1)) r.2)(hx:s1.fail≠0→r.2=s1):VaE p F e V s r:=by
 have hP:=eP p;by_cases h1:s1.fail=0
 ·have hb:=hb h1;have ha:=ha.ret h1;rw[hl]at hb;constructor
  ·intro hf;refine zI Tryz.func140 rfl zFK (rs:=[.cell 6 3 true]) (by kernel_rfl) ?_;unfold zF9;simp[eS,hP,zF,hk];refine zAw (zEU p e.ref) (by simp[zS,jF]) (by simp[zBf]) ?_;simp[zBf,hd,zO];refine⟨_,_,zR (l:=[(0,.ptr 0 0),(2,scE V),(4,.rptr [int e.id.a,int e.id.b,int e.id.c,int e.k,int e.n,int e.ref.a,int e.ref.b,int e.ref.c,int e.typ.k,int e.typ.id.a,int e.typ.id.b,int e.typ.id.c,.sl e.typ.kids.length (jH e.typ.kids),.sl e.kids.length (qL e.kids),.sl e.names.length (yK e.names)]),(6,.ptr 1 0),(7,.rptr (zO d))]) (σ':=eS p F s++[.box [int 0,int 0,.nil]]) [0,2] 1 (by decide) (by simp) (by simp[eS,hP]) (by simp[eS,hP,zF,zO,hk]),?_⟩;simp[eS,hP,zF,zO,hk];refine zCl ha [0] (by decide) (by simp[eS,hP]) (by simp) ?_;simp[eS,hP];refine zCl (hb.ret hf) [0] (by decide) (by simp[eS,hP]) (by simp[zO]) ?_;simp[eS,hP,zJ];exact zG [0] 0 (by decide) (by simp) (by simp) (by simp[zJ,qG,zZ,zM])
  ·intro hf;refine zAp Tryz.func140 rfl zFK (rs:=[.cell 6 3 true]) (by kernel_rfl) ?_;unfold zF9 wpF;simp[eS,hP,zF,hk];refine zAw (zEU p e.ref) (by simp[zS,jF]) (by simp[zBf]) ?_;simp[zBf,hd,zO];refine⟨_,_,zR (l:=[(0,.ptr 0 0),(2,scE V),(4,.rptr [int e.id.a,int e.id.b,int e.id.c,int e.k,int e.n,int e.ref.a,int e.ref.b,int e.ref.c,int e.typ.k,int e.typ.id.a,int e.typ.id.b,int e.typ.id.c,.sl e.typ.kids.length (jH e.typ.kids),.sl e.kids.length (qL e.kids),.sl e.names.length (yK e.names)]),(6,.ptr 1 0),(7,.rptr (zO d))]) (σ':=eS p F s++[.box [int 0,int 0,.nil]]) [0,2] 1 (by decide) (by simp) (by simp[eS,hP]) (by simp[eS,hP,zF,zO,hk]),?_⟩;simp[eS,hP,zF,zO,hk];refine zCl ha [0] (by decide) (by simp[eS,hP]) (by simp) ?_;simp[eS,hP];refine zD2 (hb.pan hf) [0] (by decide) (by simp[eS,hP]) (by simp[zO]) fun τ=>?_
   simp
 ·unfold VaE;rw[hx h1];refine⟨fun hf=>(h1 hf).elim,fun hf=>?_⟩;refine zAp Tryz.func140 rfl zFK (rs:=[.cell 6 3 true]) (by kernel_rfl) ?_;unfold zF9 wpF;simp[eS,hP,zF,hk];refine zAw (zEU p e.ref) (by simp[zS,jF]) (by simp[zBf]) ?_;simp[zBf,hd,zO];refine⟨_,_,zR (l:=[(0,.ptr 0 0),(2,scE V),(4,.rptr [int e.id.a,int e.id.b,int e.id.c,int e.k,int e.n,int e.ref.a,int e.ref.b,int e.ref.c,int e.typ.k,int e.typ.id.a,int e.typ.id.b,int e.typ.id.c,.sl e.typ.kids.length (jH e.typ.kids),.sl e.kids.length (qL e.kids),.sl e.names.length (yK e.names)]),(6,.ptr 1 0),(7,.rptr (zO d))]) (σ':=eS p F s++[.box [int 0,int 0,.nil]]) [0,2] 1 (by decide) (by simp) (by simp[eS,hP]) (by simp[eS,hP,zF,zO,hk]),?_⟩;simp[eS,hP,zF,zO,hk];refine zD2 (ha.pan hf) [0] (by decide) (by simp[eS,hP]) (by simp) fun τ=>?_
  simp
end
section
variable {p:Prg}{F:Int}{c:Nat}{m:Int}{ev:Evl}{e:Exp}{V:List EVar}{s:XS}
@[simp] theorem qQe:zA Tryz.prog 158=true:=by kernel_rfl
section
variable {A:List Val×XS}(hA:Ret Tryz.prog 175 [.ptr 0 0,.sl e.kids.length (qL e.kids),.sl V.length (zDa V)] (uS p F s) (.sl A.1.length (zV A.1)) (uS p F A.2))
include hA
end
end
section
variable {p:Prg}{c:Nat}{m:Int}{ev:Evl}{e:Exp}{V:List EVar}{s:XS}
@[simp] theorem qQw:zA Tryz.prog 102=true:=by kernel_rfl
end
def zTe (d:Dfn)(L:List Id):List Id:=if d.id∈L then namS d.slots L else L
theorem RS.namS {p:Prg}{hs:List Hd}(hf:Fit p hs){ss:List Slt}(h:∀s∈ss,TyOk hs 4 s.typ){L:List Id}(hL:RS p L):RS p (namS ss L) :=
 RS.fold (fun(s:Slt) L=>zPA s.typ L) ss L (fun s hs' L hL=>hL.nam hf (h s hs')) hL
theorem RS.turn {p:Prg}{hs:List Hd}(hf:Fit p hs){d:Dfn}(hd:d∈p.defs){L:List Id}(hL:RS p L):RS p (zTe d L):=by
 unfold zTe;split
 ·exact hL.namS hf (hf.slots d hd).2.2.2.2
 ·exact hL
theorem RS.rnd {p:Prg}{hs:List Hd}(hf:Fit p hs){ds:List Dfn}(hd:∀d∈ds,d∈p.defs){L:List Id}(hL:RS p L):RS p (ds.foldl (fun L d=>zTe d L) L) :=
 RS.fold zTe ds L (fun d hd' L hL=>hL.turn hf (hd d hd')) hL
@[simp] theorem qPE:zA Tryz.prog 50=true:=by kernel_rfl
inductive Al {α : Type}(R : α→α→Prop):List α→List α→Prop
 | nil:Al R [] []
 | cons {a b : α} {l m:List α} (h:R a b) (t:Al R l m):Al R (a::l) (b::m)
section
variable {α : Type}{R : α→α→Prop}
theorem Al.len {l m:List α}(h:Al R l m):m.length=l.length:=by
 induction h with
 | nil=>rfl
 | cons _ _ ih=>simp[ih]
theorem Al.append {l m l' m':List α}(h:Al R l m)(h':Al R l' m'):Al R (l++l') (m++m'):=by
 induction h with
 | nil=>exact h'
 | cons h _ ih=>exact .cons h ih
theorem Al.map {β : Type}{f g : α→β}(hf:∀a b,R a b→g b=f a){l m:List α}(h:Al R l m):m.map g=l.map f:=by
 induction h with
 | nil=>rfl
 | cons h _ ih=>simp only[jAj,ih,hf _ _ h]
theorem Al.get {l m:List α}(h:Al R l m):∀(i:Nat) (h1:i<l.length) (h2:i<m.length),R l[i] m[i]:=by
 induction h with
 | nil=>intro i h1; simp at h1
 | cons h _ ih =>
  intro i h1 h2;cases i with
  | zero=>exact h
  | succ i=>exact ih i (by simpa using h1) (by simpa using h2)
theorem Al.mem {l m:List α}(h:Al R l m){b : α}(hb:b∈m):∃a∈l,R a b:=by obtain⟨i,hi,rfl⟩:=jAh hb;exact⟨_,jA0 (by rw[←h.len]; exact hi),h.get i _ hi⟩
theorem Al.pair {l m:List α}{S : α→α→Prop}(hS:∀a b a' b',R a b→R a' b'→S a a'→S b b')(h:Al R l m)(hp:l.Pairwise S):m.Pairwise S:=by rw[jCd]at hp ⊢;intro i j hi hj hij;exact hS _ _ _ _ (h.get i (by rw[←h.len]; exact hi) hi) (h.get j (by rw[←h.len]; exact hj) hj) (hp i j _ _ hij)
theorem Al.find {idf : α→Id}(hR:∀a b,R a b→idf b=idf a){l m:List α}(h:Al R l m)(x:Id) :
 (zAD idf l x=none∧zAD idf m x=none)∨∃a b,zAD idf l x=some a∧zAD idf m x=some b∧R a b:=by
 induction h with
 | nil=>exact .inl ⟨rfl,rfl⟩
 | @cons a b l m h t ih =>
  have e:=hR a b h;simp only[zAD,jBz,e];by_cases hx:idf a=x
  ·exact .inr ⟨a,b,by simp[hx],by simp[hx],h⟩
  ·simp only[hx,decide_false];exact ih
theorem Al.mapIdx {f:Nat→α→α}(hf:∀i a,R a (f i a)):∀(l:List α),Al R l (l.mapIdx f)
 | []=>.nil
 | a::l=>by rw[List.mapIdx_cons];exact .cons (hf 0 a) (Al.mapIdx (f:=fun i=>f (i+1)) (fun i a=>hf (i+1) a) l)
end
structure SameS (s s':Slt):Prop where
 id:s'.id=s.id
 typ:s'.typ=s.typ
 most:s'.most=s.most
def qHW (e e':Exp):Prop:=∃t,e'=zOj t e
structure SameD0 (d d':Dfn):Prop where
 id:d'.id=d.id
 kind:d'.kind=d.kind
 slots:Al SameS d.slots d'.slots
 res:d'.res=d.res
structure SameD (d d':Dfn):Prop extends SameD0 d d' where
 body:qHW d.body d'.body
abbrev zJ3 (p q:Prg):Prop:=Al SameD0 p.defs q.defs
abbrev zOC (p q:Prg):Prop:=Al SameD p.defs q.defs
theorem Al.imp {α : Type}{R S : α→α→Prop}(h:∀a b,R a b→S a b){l m:List α}(hl:Al R l m):Al S l m:=by
 induction hl with
 | nil=>exact .nil
 | cons h1 _ ih=>exact .cons (h _ _ h1) ih
theorem zOC.to0 {p q:Prg}(h:zOC p q):zJ3 p q:=Al.imp (fun _ _ h=>h.toSameD0) h
theorem zCQ (t:ByteArray)(i:Id)(k n:Int)(r:Id)(u:Typ)(ks:List Exp)(ns:List ByteArray):zOj t (.mk i k n r u ks ns)=.mk i k n r u (ks.map (zOj t)) (ns.map fun _=>t):=by rw[zOj,zPD]
section
variable {p q:Prg}(hA:zOC p q)
include hA
theorem zKZ (r:Id):(jO p.defs r=none∧jO q.defs r=none)∨∃d d',jO p.defs r=some d∧jO q.defs r=some d'∧SameD d d' :=
 Al.find (idf:=Dfn.id) (fun _ _ h=>h.id) hA r
end
section
variable {p q:Prg}(hA:zJ3 p q)
include hA
theorem zJJ (r:Id):(jO p.defs r=none∧jO q.defs r=none)∨∃d d',jO p.defs r=some d∧jO q.defs r=some d'∧SameD0 d d' :=
 Al.find (idf:=Dfn.id) (fun _ _ h=>h.id) hA r
theorem zMP (r:Id):SameD0 (dfn p r) (dfn q r):=by
 unfold dfn;rcases zJJ hA r with ⟨h1,h2⟩ | ⟨d,d',h1,h2,h⟩
 ·rw[h1,h2]; exact⟨rfl,rfl,.nil,rfl⟩
 ·rw[h1,h2]; exact h
theorem zKe:∀(n:Nat) (t:Typ),yD q n t=yD p n t
 | 0,t=>rfl
 | n+1,t=>by
  have hk:zDM (jO q.defs t.id)=zDM (jO p.defs t.id):=by
   rcases zJJ hA t.id with ⟨h1,h2⟩ | ⟨d,d',h1,h2,h⟩
   ·rw[h1,h2]
   ·rw[h1,h2]; simp[zDM,h.kind]
  have ih:=zKe n;simp only[yD,hk,ih]
end
mutual
theorem zHz {p q:Prg}(hA:zJ3 p q):∀(v:Val) (t:Typ),zBq q t v=zBq p t v
 | .mk k n l,t=>by
  have hd:=zMP hA t.id;have hv:validT q t=validT p t:=zKe hA 24 t;have hm:(dfn q t.id).slots.map Slt.typ=(dfn p t.id).slots.map Slt.typ:=hd.slots.map fun _ _ h=>h.typ
  rw[zBq,zBq,hv,hd.kind,hd.slots.len,hm,zLc hA l,zRf hA l,zHy hA l]
theorem zLc {p q:Prg}(hA:zJ3 p q):∀(l:List Val) (t:Typ),zFX q t l=zFX p t l
 | [],t=>by rw[zFX,zFX]
 | v::l,t=>by rw[zFX,zFX,zHz hA v,zLc hA l]
theorem zRf {p q:Prg}(hA:zJ3 p q):∀(l:List Val) (o:Option Typ),zEj q o l=zEj p o l
 | [],none=>by rw[zEj,zEj]<;>simp
 | [],some t=>by rw[zEj,zEj]<;>simp
 | v::l,none=>by rw[zEj,zEj]<;>simp
 | v::l,some t=>by rw[zEj,zEj,zHz hA v]
theorem zHy {p q:Prg}(hA:zJ3 p q):∀(l:List Val) (ts:List Typ),zAG q ts l=zAG p ts l
 | [],[]=>by rw[zAG,zAG]<;>simp
 | [],t::ts=>by rw[zAG,zAG]<;>simp
 | v::l,[]=>by rw[zAG,zAG]<;>simp
 | v::l,t::ts=>by rw[zAG,zAG,zHz hA v,zHy hA l]
end
section
variable {p q:Prg}(hA:zJ3 p q)
include hA
omit hA in
theorem zPf {f g:List Id→Typ→List Id}(hf:∀L t,g L t=f L t){l m:List Slt}(h:Al SameS l m):∀L:List Id,m.foldl (fun L s=>g L s.typ) L=l.foldl (fun L s=>f L s.typ) L:=by
 induction h with
 | nil=>intro L; rfl
 | cons h _ ih=>intro L; rw[jBh,jBh,h.typ,hf,ih]
theorem zJX:∀(n:Nat) (t:Typ) (L:List Id),zAb q n t L=zAb p n t L
 | 0,t,L=>rfl
 | n+1,t,L=>by
  have ih:=zJX n;have hk:(fun(L:List Id) k=>zAb q n k L)=fun L k=>zAb p n k L:=by funext L k; exact ih k L
  have hs:=zPf (f:=fun L t=>zAb p n t L) (g:=fun L t=>zAb q n t L) (fun L t=>ih t L) (zMP hA t.id).slots;simp only[zAb,hk,hs]
theorem zPX {l m:List Slt}(h:Al SameS l m)(L:List Id):zBt q m L=zBt p l L :=
 zPf (f:=fun L t=>zAb p 10 t L) (g:=fun L t=>zAb q 10 t L) (fun L t=>zJX hA 10 t L) h L
end
section
variable {ev ev':Evl}(hE:∀t e V s,ev' (zOj t e) V s=ev e V s)
include hE
end
theorem qDB {α β : Type}{R : α→α→Prop}{f : α→β}(hf:∀a b,R a b→f b=f a){l m:List α}(h:Al R l m)(i:Nat)(h1:i<l.length)(h2:i<m.length):f m[i]=f l[i]:=hf _ _ (h.get i h1 h2)
theorem qCu {p q:Prg}(hA:zOC p q)(t:ByteArray){env:List Bnd}{e:Exp}{u:Typ}(h:WE p env e u):WE q env (zOj t e) u:=by
 have key:∀{r:Id} {d:Dfn},jO p.defs r=some d→∃d',jO q.defs r=some d'∧SameD d d':=fun {r d} hd=>by
  rcases zKZ hA r with ⟨h1,_⟩ | ⟨a,b,h1,h2,h⟩
  ·rw[h1]at hd; cases hd
  ·rw[h1]at hd; cases hd; exact⟨b,h2,h⟩
 induction h with
 | int env i n r u ns h1 h2=>rw[zCQ]; exact .int _ _ _ _ _ _ h1 h2
 | bool env i n r u ns h=>rw[zCQ]; exact .bool _ _ _ _ _ _ h
 | var env i n r u ns t h=>rw[zCQ]; exact .var _ _ _ _ _ _ _ h
 | call env i n r u ks ns hn d hd hk hl hw ih =>
  obtain⟨d',hd',hs⟩:=key hd;have hm:d'.slots.map Slt.typ=d.slots.map Slt.typ:=hs.slots.map fun _ _ h=>h.typ
  rw[zCQ,←hs.res];refine .call _ _ _ _ _ _ _ (by simpa using hn) d' hd' (hs.kind.trans hk) (by rw[hm]; simpa using hl) fun j hj=>?_
  have hj':j<ks.length:=by simpa using hj
  have:=ih j hj'
  simpa [hm] using this
 | op env i n r u ks ns hn ts t ho hl hw ih =>
  rw[zCQ];refine .op _ _ _ _ _ _ _ (by simpa using hn) ts t ho (by simpa using hl) fun j hj=>?_
  have hj':j<ks.length:=by simpa using hj
  simpa using ih j hj'
 | ite env i n r u a b c ns t ha hb hc i1 i2 i3=>rw[zCQ]; exact .ite _ _ _ _ _ _ _ _ _ _ i1 i2 i3
 | lets env i n r u a b ns v t hf ha hb i1 i2=>rw[zCQ]; exact .lets _ _ _ _ _ _ _ _ _ _ hf i1 i2
 | record env i n r u ks ns hn d hd hk hl hw ih =>
  obtain⟨d',hd',hs⟩:=key hd;have hm:d'.slots.map Slt.typ=d.slots.map Slt.typ:=hs.slots.map fun _ _ h=>h.typ
  rw[zCQ];refine .record _ _ _ _ _ _ _ (by simpa using hn) d' hd' (hs.kind.trans hk) (by rw[hm]; simpa using hl) fun j hj=>?_
  have hj':j<ks.length:=by simpa using hj
  simpa [hm] using ih j hj'
 | field env i r u a ns d j hd hk hj ha ih =>
  obtain⟨d',hd',hs⟩:=key hd;have hj':j<d'.slots.length:=by rw[hs.slots.len]; exact hj
  rw[zCQ,←qDB (f:=Slt.typ) (fun _ _ h=>h.typ) hs.slots j hj hj'];exact .field _ _ _ _ _ _ d' j hd' (hs.kind.trans hk) hj' ih
 | case env i r u a ns d j hd hk hj ha ih =>
  obtain⟨d',hd',hs⟩:=key hd;have hj':j<d'.slots.length:=by rw[hs.slots.len]; exact hj
  rw[zCQ];refine .case _ _ _ _ _ _ d' j hd' (hs.kind.trans hk) hj' ?_;rw[qDB (f:=Slt.typ) (fun _ _ h=>h.typ) hs.slots j hj hj'];exact ih
 | mtch env i n r u a ks ns d t hf hd hk hl ha hw i1 ih =>
  obtain⟨d',hd',hs⟩:=key hd;rw[zCQ];refine .mtch _ _ _ _ _ _ _ _ d' _ hf hd' (hs.kind.trans hk) (by rw[jAa,hs.slots.len]; exact hl) i1 fun j hj=>?_
  have hj':j<ks.length:=by simpa using hj
  have hjd:j<d.slots.length:=hl▸hj';have hjd':j<d'.slots.length:=by rw[hs.slots.len]; exact hjd
  have:=ih j hj';rw[←qDB (f:=Slt.typ) (fun _ _ h=>h.typ) hs.slots j hjd hjd']at this
  simpa using this
 | list env i n r u ks ns t hn hw ih =>
  rw[zCQ];refine .list _ _ _ _ _ _ _ _ (by simpa using hn) fun j hj=>?_
  have hj':j<ks.length:=by simpa using hj
  simpa using ih j hj'
 | fold env i n r u l s b ns v t hf hl hs hb i1 i2 i3=>rw[zCQ]; exact .fold _ _ _ _ _ _ _ _ _ _ _ hf i1 i2 i3
theorem zTm {hs hs':List Hd}(hl:hs'.length=hs.length)(h1:∀(k:Nat)(a:k<hs.length)(b:k<hs'.length),hs'[k].id=hs[k].id∧hs'[k].kind=hs[k].kind∧Al SameS hs[k].slots hs'[k].slots){r:Nat}{t:Typ}(h:TyOk hs r t):TyOk hs' r t:=by
 induction h with
 | int r=>exact .int _
 | bool r=>exact .bool _
 | list r t _ ih=>exact .list _ _ ih
 | dfn r k h n1 h2 h3 h4 ih =>
  have h':k<hs'.length:=by omega
  obtain⟨a1,a2,a3⟩:=h1 k h h';rw[←a1];refine .dfn r k h' (fun j hj=>?_) (by rw[a2,a3.len]; exact h2) (by rw[a3.len]; exact h3) fun s hs=>?_
  ·rw[a1,(h1 j (by omega) (by omega)).1]; exact n1 j hj
  ·obtain⟨s0,hs0,hS⟩:=a3.mem hs;rw[hS.typ];exact ih s0 hs0
theorem zT8 {d d':Dfn}(h:SameD d d'):zBk d'=zBk d:=h.slots.map fun a b h=>by rw[h.id,h.typ]
theorem Fit.same {p q:Prg}{hs:List Hd}(hA:zOC p q)(h:Fit p hs):Fit q (q.defs.map Dfn.hd):=by
 have hl:=hA.len;have hhs:hs=p.defs.map Dfn.hd:=h.heads.symm;have hT:∀{r:Nat} {t:Typ},TyOk hs r t→TyOk (q.defs.map Dfn.hd) r t:=fun ht=>by
  refine zTm (by rw[hhs]; simp[hl]) (fun k a b=>?_) ht;have a':k<p.defs.length:=by rw[hhs]at a; simpa using a
  have b':k<q.defs.length:=by simpa using b
  have e1:hs[k]=p.defs[k].hd:=by simp[hhs]
  have e2:(q.defs.map Dfn.hd)[k]=q.defs[k].hd:=by simp
  rw[e1,e2];have hk:=hA.get k a' b';exact⟨hk.id,hk.kind,hk.slots⟩
 refine⟨rfl,by rw[hl]; exact h.len5,by rw[hl]; exact h.len8,hA.pair (fun a b a' b' r1 r2 hne=>by rw[r1.id,r2.id]; exact hne) h.nd,fun d hd=>?_,fun d hd=>?_,fun r d hd hb=>?_⟩
 ·obtain⟨a,ha,hS⟩:=hA.mem hd;obtain⟨s1,s2,s3,s4,s5⟩:=h.slots a ha;rw[hS.slots.len,hS.kind];refine⟨s1,s2,s3,hS.slots.pair (fun a b a' b' r1 r2 hne=>by rw[r1.id,r2.id]; exact hne) s4,fun s hs=>?_⟩;obtain⟨s0,hs0,hs'⟩:=hS.slots.mem hs;have:=hT (s5 s0 hs0);rw[hs'.typ];exact this
 ·obtain⟨a,ha,hS⟩:=hA.mem hd;rw[hS.kind];exact h.kinds a ha
 ·rcases zKZ hA r with ⟨_,h2⟩ | ⟨a,b,h1,h2,hS⟩
  ·rw[h2]at hd; cases hd
  ·rw[h2]at hd; cases hd;obtain⟨t,ht⟩:=hS.body;rw[zT8 hS,ht,hS.res];refine qCu hA t (h.bods r a h1 ?_)
   simpa [zB3,hS.kind] using hb
structure RelX (k:Int)(s s':XS):Prop where
 fuel:s'.fuel=s.fuel-k
 fail:s'.fail=s.fail
 ds:s'.ds=s.ds
 ns:s'.ns=s.ns
def zCG (s' s:XS):Prop:=(∀x∈s'.ds,x∈s.ds)∧∀x∈s'.ns,x∈s.ns
theorem zCG.rfl' (s:XS):zCG s s:=⟨fun _ h=>h,fun _ h=>h⟩
theorem zCG.trans {a b c:XS}(h:zCG a b)(k:zCG b c):zCG a c:=⟨fun x hx=>k.1 x (h.1 x hx),fun x hx=>k.2 x (h.2 x hx)⟩
theorem RelX.sub {k:Int}{s s':XS}(h:RelX k s s'):zCG s' s:=⟨fun x hx=>by rw[←h.ds]; exact hx,fun x hx=>by rw[←h.ns]; exact hx⟩
theorem zLW (s:XS):InvX (zCG s) :=
 ⟨fun e t h _=>⟨h.1,fun x hx=>jBn _ (h.2 x hx)⟩,fun d t h=>⟨fun x hx=>jBn _ (h.1 x hx),h.2⟩,fun x t h=>h⟩
def Grow (ev:Evl):Prop:=∀e V s,zCG s (ev e V s).2
theorem zPH (p:Prg)(fl n:Nat):Grow (zAA p fl n):=fun e V s=>zDD (zLW s) fl n e V s (zCG.rfl' s)
def qHU {α : Type}(k:Int)(r r' : α×XS):Prop:=(RelX k r.2 r'.2∧r'.1=r.1)∨(r'.2.fail≠0∧zCG r'.2 r.2)
theorem qHU.grow {α : Type}{k:Int}{r r' : α×XS}{t : α}{s:XS}(h:r'.2.fail≠0∧zCG r'.2 r.2)(hs:zCG r.2 s):qHU k (t,s) r':=.inr ⟨h.1,h.2.trans hs⟩
section
variable {p:Prg}{k:Int}{ev ev':Evl}
theorem Grow.all (hg:Grow ev)(V:List EVar)(l:List Exp)(s:XS):zCG s (qP ev V l s).2:=zFI (I:=zCG s) (fun e V t ht=>ht.trans (hg e V t)) V l s (zCG.rfl' s)
theorem Grow.fold (hg:Grow ev)(V:List EVar)(i:Id)(b:Exp)(l:List Val)(r:Val×XS):zCG r.2 (jY ev V i b l r).2:=zGA (I:=zCG r.2) (fun e V t ht=>ht.trans (hg e V t)) V i b l r (zCG.rfl' r.2)
theorem Grow.body (hg:Grow ev)(d:Dfn)(vs:List Val)(s:XS):zCG s (zAX ev d vs s).2:=zG3 (I:=zCG s) (zLW s) (fun e V t ht=>ht.trans (hg e V t)) d vs s (zCG.rfl' s)
end
theorem zSt (C:Int):InvX (fun s=>s.ns.length+s.fuel=C) :=
 ⟨fun e s h hf=>by unfold zCe; simp only[jA5,jAl]; have:(s.ns.length:Int)+s.fuel=C:=h; omega,fun d s h=>h,fun x s h=>h⟩
theorem zQf (p:Prg)(d:Dfn)(vs:List Val)(fuel:Int):((zBN p d vs fuel).2.ns.length:Int)+(zBN p d vs fuel).2.fuel=fuel :=
 zG3 (zSt fuel) (zDD (zSt fuel) 1 _) d vs _ (by simp)
theorem zZZ (p:Prg)(d:Dfn)(vs:List Val)(fuel:Int)(h:0≤fuel):0≤(zBN p d vs fuel).2.fuel :=
 (zG3 (zLf fuel) (zDD (zLf fuel) 1 _) d vs _ ⟨h,jC7 _⟩:Fu fuel (zBN p d vs fuel).2).1
theorem RP.congr {f:FuncId}{args:List A}{p:Prg}{F:Int}{s s':XS}{r r':A}(h:RP f args p F s r s')(hr:s'.fail=0→r=r'):RP f args p F s r' s' :=
 ⟨fun hf=>by rw[←hr hf]; exact h.ret hf,h.pan⟩
section
variable {p:Prg}{F m:Int}{ev:Evl}{B:List Bnd}{e:Exp}{t:Typ}{V:List EVar}{s:XS}
def zUS:K:=G [kO 4 1,kZ 6 [ki,ki,kl]] (Z (Z (K.dops [(0,0,M 8 0),(1,0,kU 9 8),(2,0,D 10 9 3),(3,0,L 11 10 1),(4,0,M 12 0),(5,0,kU 13 12),(6,0,D 14 13 2),(7,0,L 15 14 1),(8,0,kB 16 11 15 .geq)]) (Y 16 (K.ops [⟨none,.mki (some 17) 51 (kc 18)⟩,⟨none,.pan none (kt 17)⟩]) ks)) (G [M 18 0,kU 19 18,D 20 19 3,L 21 20 1,kBi 22 21 1 .add,kU 23 18,D 24 23 3,S 24 22 1] (G [M 25 0,J 26 4 15,M 27 2,kC 28 140 [(kt 25),(kt 26),(kt 27)],kZ 7 [ki,ki,kl],S 7 28 3] (Z (G [J 29 7 3,kC 30 130 [(kt 29)],kBi 31 30 256 .gtr,M 32 31,T 32 false (J 33 7 3),T 32 false (kC 34 141 [(kt 33)]),T 32 false (kBi 35 34 24 .gtr),kPt 36 32 35] (Y 36 (K.ops [⟨none,.mki (some 37) 51 (kc 4)⟩,⟨none,.pan none (kt 37)⟩]) ks)) (G [J 38 7 3,S 6 38 3] kr)))))
theorem zYt:zL Tryz.prog Tryz.f115.ntmps (Tryz.f115.body.getD .skip)=some zUS.erase:=by kernel_rfl
@[simp] theorem qPc:zA Tryz.prog 115=true:=by kernel_rfl
theorem zMR (hu:s.fuel≤0):zMr p F e V s (vz,{s with fail:=zKR}):=by
 have hP:=eP p;refine⟨fun hf=>absurd (show zKR=0 from hf) (by decide),fun _=>?_⟩;have hc:F≤F-s.fuel:=by omega
 refine zED Tryz.func115 rfl zYt (rs:=[.cell 6 3 true]) (by kernel_rfl) ?_;unfold zUS wpF;simp[eS,hP,zF,hc]
theorem zWp {r:Val×XS}(hF:F≤1000000)(hs:s.fail=0)(hu:¬s.fuel≤0)(hB:Fu F s)(hv:VaE p F e V (zCe e s) r):zMr p F e V s (zOY 1 r):=by
 have hP:=eP p;obtain⟨b1,b2⟩:=hB;have hc:¬F≤F-s.fuel:=by omega
 have hw:IntKind.i64.wrap (F-s.fuel+1)=F-(s.fuel-1):=by rw[IntWalk.i64_in _ (by omega)]; omega
 have he:zOY 1 r=(r.1,zCP r):=by simp[zOY,zf]
 have ht:(zCe e s).fuel=s.fuel-1:=rfl;rw[he];by_cases h0:r.2.fail=0
 ·have hv:=hv.ret h0;by_cases hbig:zQF r.1
  ·have hl:zCP r={r.2 with fail:=zFR}:=by unfold zCP; rw[if_pos ⟨h0,hbig⟩]
   rw[hl];refine⟨fun hf=>absurd (show zFR=0 from hf) (by decide),fun _=>?_⟩;refine zED Tryz.func115 rfl zYt (rs:=[.cell 6 3 true]) (by kernel_rfl) ?_;unfold zUS wpF;simp[eS,hP,zF,hc,hw];refine zN hv [0] (by decide) (by simp[eS,hP,ht]) (by simp[zF]) ?_;simp[eS,hP,zJ];refine zT (zKx r.1) (by simp[zJ]) (by simp) ?_;by_cases h1:256<zDu r.1
   ·simp[h1]
   ·have h2:24<zBS r.1:=hbig.resolve_left h1;simp[h1];refine zT (zIM r.1) (by simp[zJ]) (by simp) ?_;simp[h2]
  ·have hl:zCP r=r.2:=by unfold zCP; rw[if_neg fun h=>hbig h.2]
   have h1:¬256<zDu r.1:=fun h=>hbig (.inl h)
   have h2:¬24<zBS r.1:=fun h=>hbig (.inr h)
   rw[hl];refine⟨fun _=>?_,fun hf=>(hf h0).elim⟩;refine zK Tryz.func115 rfl zYt (rs:=[.cell 6 3 true]) (by kernel_rfl) ?_;unfold zUS;simp[eS,hP,zF,hc,hw];refine zN hv [0] (by decide) (by simp[eS,hP,ht]) (by simp[zF]) ?_;simp[eS,hP,zJ];refine zT (zKx r.1) (by simp[zJ]) (by simp) ?_;simp[h1];refine zT (zIM r.1) (by simp[zJ]) (by simp) ?_;simp[h2];exact zG [0] 0 (by decide) (by simp) (by simp) (by simp[zJ])
 ·have hl:zCP r=r.2:=by unfold zCP; rw[if_neg fun h=>h0 h.1]
  rw[hl];refine⟨fun hf=>(h0 hf).elim,fun _=>?_⟩;refine zED Tryz.func115 rfl zYt (rs:=[.cell 6 3 true]) (by kernel_rfl) ?_;unfold zUS wpF;simp[eS,hP,zF,hc,hw];refine zHN (hv.pan h0) [0] (by decide) (by simp[eS,hP,ht]) (by simp[zF]) fun τ=>?_
  simp
theorem zKS (h:IhE p F m ev){a:Exp}{ks:List Exp}{u:Typ}(hk:e.k=5∨e.k=6∨e.k=8∨e.k=10∨e.k=12)(hks:e.kids=a::ks)(ha:WE p B a u)(hV:EnvT p B V)(hN:NdV V)(hs:s.fail=0)(hB:Fu m s)
 (hb:∀v s1,s1.fail=0→Fu m s1→TyV p u v∧qI v≤256→BrE p F e V v s1 (zAN ev e V v s1)):VaE p F e V s (jI ev e V s):=by
 have hh:e.kids.headD .zero=a:=by rw[hks]; rfl
 refine qD0 hk hks (h.ok a V s hs (.of ha hV hN) hB) (fun h1=>?_) fun h1=>?_
 ·rw[zTr (by rw[hh]; exact h1),hh];exact hb _ _ h1 (h.fu a V s hB) (h.snd a B V s u ha hV h1)
 ·unfold jI;rw[hh,if_pos h1]
theorem zTF (hp:zQ8 p)(hsl:zVv p)(h:IhE p F m ev)(he:WE p B e t)(hV:EnvT p B V)(hN:NdV V)(hs:s.fail=0)(hB:Fu m s):VaE p F e V s (qH p 1 ev e V s):=by
 cases he with
 | int _ i n r u ns h1 h2=>exact zZh hs rfl
 | bool _ i n r u ns h1=>exact zW3 hs rfl h1
 | var _ i n r u ns _ hl=>exact zZj hs rfl
 | call _ i n r u ks ns hn d hd hk hl hw =>
  have e1:qH p 1 ev (.mk i 3 n r u ks ns) V s=zAX ev d (qP ev V ks s).1 (qP ev V ks s).2:=by simp[qH,dfn,hd]
  rw[e1];have hdm:=(zAt hd).1;have hal:=zHT h V ks hn hs (fun k hk s=>by obtain⟨j,hj,rfl⟩:=jAh hk; exact .of (hw j hj) hV hN) hB;have hll:=zCh ev V ks s;refine zW4 (e:=.mk i 3 n r u ks ns) (vs:=(qP ev V ks s).1) (s1:=(qP ev V ks s).2) rfl hd hll hal (fun hf=>?_) fun hf=>?_
  ·obtain⟨ht,hz⟩:=zD0 h.stop h.snd hV ks _ s hl hw hf;have hlen:=ht.len;rw[jAa]at hlen;exact zOV h d _ hlen (hsl d hdm).1 hf (fun _=>⟨_,_,hp r d hd (by simp[zB3,hk]),EnvT.args ht hz,zKn (hsl d hdm).2 _ hlen⟩) (zFI h.fu V ks s hB)
  ·unfold zAX;rw[if_pos hf]
 | op _ i n r u ks ns hn ts _ ho hl hw =>
  have e1:qH p 1 ev (.mk i 4 n r u ks ns) V s=(zf true (qP ev V ks s).2 (opV n (qP ev V ks s).1),(qP ev V ks s).2):=by simp[qH]
  rw[e1];have hal:=zHT h V ks hn hs (fun k hk s=>by obtain⟨j,hj,rfl⟩:=jAh hk; exact .of (hw j hj) hV hN) hB;refine RP.congr (qD1 (e:=.mk i 4 n r u ks ns) (ts:=ts) (t:=t) (vs:=(qP ev V ks s).1) rfl (fun hf=>?_) (zCh ev V ks s) hal) fun hf=>by rw[zEN hf]; rfl
  obtain⟨ht,hz⟩:=zD0 h.stop h.snd hV ks _ s hl hw hf;exact⟨ho,ht,hz⟩
 | record _ i n r u ks ns hn d hd hk hl hw =>
  have e1:qH p 1 ev (.mk i 7 n r u ks ns) V s=(zf true (qP ev V ks s).2 (.mk 2 0 (qP ev V ks s).1),(qP ev V ks s).2):=by simp[qH]
  rw[e1];have hal:=zHT h V ks hn hs (fun k hk s=>by obtain⟨j,hj,rfl⟩:=jAh hk; exact .of (hw j hj) hV hN) hB;exact RP.congr (zZi (e:=.mk i 7 n r u ks ns) rfl (zCh ev V ks s) hal) fun hf=>by rw[zEN hf]
 | case _ i r u a ns d j hd hk hj ha =>
  have e1:qH p 1 ev (.mk i 9 j r u [a] ns) V s=(zf true (qP ev V [a] s).2 (.mk 3 j (qP ev V [a] s).1),(qP ev V [a] s).2):=by simp[qH]
  rw[e1];have hal:=zHT h V [a] (by simp) hs (fun k hk s=>by rw[jAg.1 hk]; exact .of ha hV hN) hB;exact RP.congr (zW5 (e:=.mk i 9 j r u [a] ns) rfl (zCh ev V [a] s) hal) fun hf=>by rw[zEN hf]; rfl
 | list _ i n r u ks ns t hn hw =>
  have e1:qH p 1 ev (.mk i 11 n r u ks ns) V s=(zf true (qP ev V ks s).2 (.mk 4 0 (qP ev V ks s).1),(qP ev V ks s).2):=by simp[qH]
  rw[e1];have hal:=zHT h V ks hn hs (fun k hk s=>by obtain⟨j,hj,rfl⟩:=jAh hk; exact .of (hw j hj) hV hN) hB;exact RP.congr (zW6 (e:=.mk i 11 n r u ks ns) rfl (zCh ev V ks s) hal) fun hf=>by rw[zEN hf]
 | ite _ i n r u a b c ns _ ha hb hc =>
  have e1:qH p 1 ev (.mk i 5 n r u [a,b,c] ns) V s=jI ev (.mk i 5 n r u [a,b,c] ns) V s:=by simp[qH]
  rw[e1];refine zKS h (.inl rfl) rfl ha hV hN hs hB fun v s1 h1 hB1 hty=>?_
  obtain⟨x,rfl,hx⟩:=hty.1.bool_inv;exact zYL hx rfl rfl (h.ok b V s1 h1 (.of hb hV hN) hB1) (h.ok c V s1 h1 (.of hc hV hN) hB1)
 | lets _ i n r u a b ns v _ hfr ha hb =>
  have e1:qH p 1 ev (.mk i 6 n r u [a,b] ns) V s=jI ev (.mk i 6 n r u [a,b] ns) V s:=by simp[qH]
  rw[e1];refine zKS h (.inr (.inl rfl)) rfl ha hV hN hs hB fun v s1 h1 hB1 hty=>?_
  exact zYM rfl rfl (h.ok b _ s1 h1 (.of hb (hV.push hty) (hN.push (.of (hV.ids hfr) 0))) hB1)
 | field _ i r u a ns d j hd hk hj ha =>
  have e1:qH p 1 ev (.mk i 8 j r u [a] ns) V s=jI ev (.mk i 8 j r u [a] ns) V s:=by simp[qH]
  rw[e1];refine zKS h (.inr (.inr (.inl rfl))) rfl ha hV hN hs hB fun v s1 h1 hB1 hty=>?_
  obtain⟨_,vs,hl,rfl,_⟩:=(hty.1.def_inv hd).resolve_right (fun h=>by omega);exact zT4 rfl rfl h1 (by omega) rfl
 | mtch _ i n r u a ks ns d _ hfr hd hk hl ha hw =>
  have e1:qH p 1 ev (.mk i 10 n r u (a::ks) ns) V s=jI ev (.mk i 10 n r u (a::ks) ns) V s:=by simp[qH]
  rw[e1];refine zKS h (.inr (.inr (.inr (.inl rfl)))) rfl ha hV hN hs hB fun v s1 h1 hB1 hty=>?_
  obtain⟨_,q,x,hm,rfl,hxt⟩:=(hty.1.def_inv hd).resolve_left (fun h=>by omega);have hq:q<ks.length:=by omega
  exact zT5 rfl rfl hq (by have:=(hsl d (zAt hd).1).1; omega) (h.ok ks[q] _ s1 h1 (.of (hw q hq) (hV.push ⟨hxt,zCA hty.2 (by simp[zM])⟩) (hN.push (.of (hV.ids hfr) q))) hB1)
 | fold _ i n r u l z b ns v _ hfr hl' hs' hb =>
  have e1:qH p 1 ev (.mk i 12 n r u [l,z,b] ns) V s=jI ev (.mk i 12 n r u [l,z,b] ns) V s:=by simp[qH]
  rw[e1];refine zKS h (.inr (.inr (.inr (.inr rfl)))) rfl hl' hV hN hs hB fun v s1 h1 hB1 hty=>?_
  obtain⟨vs,rfl,hvs⟩:=hty.1.list_inv;have hfv:=hV.ids hfr;have ht2:=h.snd z B V s1 _ hs' hV;refine zWg h.stop rfl rfl (h.ok z V s1 h1 (.of hs' hV hN) hB1) fun x a s2 h2 ⟨j,hj,hx⟩=>?_
  have hxm:=jBt hx;have hty2:=zId h.stop h.snd hV hb (vs.take j) (ev z V s1) (fun x hx=>⟨hvs x (jBa hx),zCA hty.2 (jBa hx)⟩) ht2;have hfu:=zGA h.fu V i b (vs.take j) (ev z V s1) (h.fu z V s1 hB1);rw[show (Exp.mk i 12 n r u [l,z,b] ns).id=i from rfl]at hj;rw[hj]at hty2 hfu;exact h.ok b _ s2 h2 (.of hb ((hV.push ⟨hvs x hxm,zCA hty.2 hxm⟩).push (hty2 h2)) ((hN.push (.of hfv 0)).push (.push hfv (by decide) _))) hfu
theorem zS2 (hp:zQ8 p)(hsl:zVv p)(hF:F≤1000000):∀n:Nat,(n:Int)≤F→IhE p F n (zAA p 1 n)
 | 0,_=>⟨zDN p 1 0,zGh hp 1 0,zDD (zLf _) 1 0,fun e V s hs hA hB=>by rw[zAA,if_neg (by simp[hs])];exact zMR hB.2⟩
 | n+1,hn=>⟨zDN p 1 (n+1),zGh hp 1 (n+1),zDD (zLf _) 1 (n+1),fun e V s hs hA hB=>by
  rw[zAA,if_neg (by simp[hs])];split
  ·rename_i hu; exact zMR hu
  ·rename_i hu;obtain⟨B,t,he,hV,hN⟩:=hA hs;obtain⟨b1,b2⟩:=hB;exact zWp hF hs hu ⟨b1,by omega⟩ (zTF hp hsl (zS2 hp hsl hF n (by omega)) he hV hN (by exact hs) ⟨by show 0≤s.fuel-1; omega,by show s.fuel-1≤_; omega⟩)⟩
end
section
variable {p:Prg}{F:Int}{c:Nat}{m:Int}{ev:Evl}{e:Exp}{V:List EVar}{s:XS}
@[simp] theorem qQd:zA Tryz.prog 137=true:=by kernel_rfl
end
structure TwD (Q:Exp→Exp→Prop)(d d':Dfn):Prop where
 eq:d'=d.wb d'.body
 q:Q d.body d'.body
 no:zAI d.kind=false→d'.body=d.body
theorem TwD.s0 {Q:Exp→Exp→Prop}{d d':Dfn}(h:TwD Q d d'):SameD0 d d':=by
 have al:∀l:List Slt,Al SameS l l:=fun l=>by
  induction l with
  | nil=>exact .nil
  | cons x l ih=>exact .cons ⟨rfl,rfl,rfl⟩ ih
 rw[h.eq];exact⟨rfl,rfl,al _,rfl⟩
theorem Al.refl {α : Type}{R : α→α→Prop}(h:∀a,R a a):∀l:List α,Al R l l
 | []=>.nil
 | a::l=>.cons (h a) (Al.refl h l)
theorem Al.set {α : Type}{R : α→α→Prop}{l m:List α}(h:Al R l m):∀(i:Nat) (b : α),(∀a b0,l[i]?=some a→m[i]?=some b0→R a b0→R a b)→Al R l (m.set i b):=by
 induction h with
 | nil=>intro i b _; exact .nil
 | @cons a c l m h t ih =>
  intro i b hb;cases i with
  | zero=>exact .cons (hb a c rfl rfl h) t
  | succ i=>exact .cons h (ih i b fun a' b0 h1 h2=>hb a' b0 (by simpa using h1) (by simpa using h2))
theorem zU8 {Q:Exp→Exp→Prop}(hs:∀e e' a x,0≤x→Q e e'→Q e (zAc e' a x).1)(l:List Int)(hl:∀x∈l,w64 x=x){ds es:List Dfn}(h:Al (TwD Q) ds es)(i:Nat):Al (TwD Q) ds (zF1 l es i):=by
 unfold zF1;split
 ·rename_i d hd;split
  ·rename_i hk;refine h.set _ _ fun a b0 h1 h2 hR=>?_
   rw[hd]at h2;cases h2;refine⟨?_,hs _ _ _ _ (yM hl (by omega)).1 hR.q,fun hn=>?_⟩
   ·rw[hR.eq]; rfl
   ·rw[hR.eq]at hk;rw[show (a.wb d.body).kind=a.kind from rfl,hn]at hk;cases hk
  ·exact h
 ·exact h
theorem zQw {Q:Exp→Exp→Prop}(hr:∀e,Q e e)(hs:∀e e' a x,0≤x→Q e e'→Q e (zAc e' a x).1)(l:List Int)(hl:∀x∈l,w64 x=x)(ds:List Dfn):∀i:Nat,Al (TwD Q) ds (zDx l ds i)
 | 0=>Al.refl (fun d=>⟨rfl,hr _,fun _=>rfl⟩) ds
 | i+1=>zU8 hs l hl (zQw hr hs l hl ds i) i
def Ids (e e':Exp):Prop:=e'.id=e.id∧((zAm e').map Exp.id).Perm ((zAm e).map Exp.id)
theorem Ids.rfl' (e:Exp):Ids e e:=⟨rfl,.refl _⟩
theorem Ids.trans {a b c:Exp}(h:Ids a b)(k:Ids b c):Ids a c:=⟨k.1.trans h.1,k.2.trans h.2⟩
theorem zKr (e:Exp)(n:Int):Ids e (twN e n):=⟨rfl,by rw[zCm,zCm]; exact .refl _⟩
theorem zWN (e:Exp)(x:Int):Ids e (yU e x):=by
 unfold yU;split
 ·exact zKr _ _
 split
 ·exact zKr _ _
 split
 ·split
  ·exact zKr _ _
  ·split
   ·exact zKr _ _
   ·exact .rfl' _
 split
 ·split
  ·rename_i a b c hk;refine⟨rfl,?_⟩;rw[zCm,zCm,hk];show (e.id::(zAe [a,c,b]).map Exp.id).Perm (e.id::(zAe [a,b,c]).map Exp.id);refine .cons _ ?_;simp only[zAe,jAz,jB1];exact .append_left _ jDm
  ·exact .rfl' _
 ·exact .rfl' _
mutual
theorem zNk:∀(e:Exp) (a x:Int),Ids e (zAc e a x).1
 | .mk i k n r t ks ns,a,x=>by
  simp only[zAc];split
  ·exact zWN _ _
  ·refine⟨rfl,?_⟩;simp only[zAm,jAj];exact .cons _ (zH1 ks (a-1) x)
theorem zH1:∀(l:List Exp) (a x:Int),((zAe (qV l a x).1).map Exp.id).Perm ((zAe l).map Exp.id)
 | [],a,x=>.refl _
 | e::l,a,x=>by
  simp only[qV];split
  ·simp only[zAe,jB1];exact .append (zNk e a x).2 (zH1 l _ x)
  ·simp only[zAe,jB1];exact .append (.refl _) (zH1 l a x)
end
theorem qLw {p q:Prg}(key:∀r d,jO p.defs r=some d→∃d',jO q.defs r=some d'∧d'=d.wb d'.body){env:List Bnd}{e:Exp}{u:Typ}(h:WE p env e u):WE q env e u:=by
 induction h with
 | int env i n r u ns h1 h2=>exact .int _ _ _ _ _ _ h1 h2
 | bool env i n r u ns h=>exact .bool _ _ _ _ _ _ h
 | var env i n r u ns t h=>exact .var _ _ _ _ _ _ _ h
 | call env i n r u ks ns hn d hd hk hl hw ih =>
  obtain⟨d',hd',e⟩:=key r d hd;have hs:d'.slots=d.slots:=by rw[e]; rfl
  have hr:d'.res=d.res:=by rw[e]; rfl
  have hkk:d'.kind=2:=by rw[e]; exact hk
  rw[←hr];exact .call _ _ _ _ _ _ _ hn d' hd' hkk (by rw[hs]; exact hl) fun j hj=>by simpa only[hs] using ih j hj
 | op env i n r u ks ns hn ts t ho hl hw ih=>exact .op _ _ _ _ _ _ _ hn ts t ho hl ih
 | ite env i n r u a b c ns t ha hb hc i1 i2 i3=>exact .ite _ _ _ _ _ _ _ _ _ _ i1 i2 i3
 | lets env i n r u a b ns v t hf ha hb i1 i2=>exact .lets _ _ _ _ _ _ _ _ _ _ hf i1 i2
 | record env i n r u ks ns hn d hd hk hl hw ih =>
  obtain⟨d',hd',e⟩:=key r d hd;have hs:d'.slots=d.slots:=by rw[e]; rfl
  have hkk:d'.kind=0:=by rw[e]; exact hk
  exact .record _ _ _ _ _ _ _ hn d' hd' hkk (by rw[hs]; exact hl) fun j hj=>by simpa only[hs] using ih j hj
 | field env i r u a ns d j hd hk hj ha ih =>
  obtain⟨d',hd',e⟩:=key r d hd;have hs:d'.slots=d.slots:=by rw[e]; rfl
  have hkk:d'.kind=0:=by rw[e]; exact hk
  have:=WE.field env i r u a ns d' j hd' hkk (by rw[hs]; exact hj) ih
  simpa only[hs] using this
 | case env i r u a ns d j hd hk hj ha ih =>
  obtain⟨d',hd',e⟩:=key r d hd;have hs:d'.slots=d.slots:=by rw[e]; rfl
  have hkk:d'.kind=1:=by rw[e]; exact hk
  exact .case _ _ _ _ _ _ d' j hd' hkk (by rw[hs]; exact hj) (by simpa only[hs] using ih)
 | mtch env i n r u a ks ns d t hf hd hk hl ha hw i1 ih =>
  obtain⟨d',hd',e⟩:=key r d hd;have hs:d'.slots=d.slots:=by rw[e]; rfl
  have hkk:d'.kind=1:=by rw[e]; exact hk
  exact .mtch _ _ _ _ _ _ _ _ d' _ hf hd' hkk (by rw[hs]; exact hl) i1 fun j hj=>by simpa only[hs] using ih j hj
 | list env i n r u ks ns t hn hw ih=>exact .list _ _ _ _ _ _ _ _ hn ih
 | fold env i n r u l s b ns v t hf hl hs hb i1 i2 i3=>exact .fold _ _ _ _ _ _ _ _ _ _ _ hf i1 i2 i3
def Tk (x:Int)(e e':Exp):Prop:=e'=e∨∃b,e'=(zAc e b x).1
theorem zAW (x:Int):∀(l:List Exp) (a:Int),Al (Tk x) l (qV l a x).1
 | [],a=>.nil
 | e::l,a=>by
  simp only[qV];split
  ·exact .cons (.inr ⟨a,rfl⟩) (zAW x l _)
  ·exact .cons (.inl rfl) (zAW x l _)
theorem zDw {q:Prg}{x:Int}{env:List Bnd}{e e':Exp}{t:Typ}(h:WE q env e t)(ih:∀a,WE q env (zAc e a x).1 t)(hk:Tk x e e'):WE q env e' t:=by
 rcases hk with rfl | ⟨b,rfl⟩
 ·exact h
 ·exact ih b
theorem zLY {x m:Int}(hx:0≤x)(hm:0<m):0≤x.tmod m∧x.tmod m<m:=⟨jDo m hx,Int.tmod_lt_of_pos x hm⟩
theorem qLo {q:Prg}{x:Int}(hx:0≤x){env:List Bnd}{e:Exp}{u:Typ}(h:WE q env e u):∀a,WE q env (zAc e a x).1 u:=by
 induction h with
 | int env i n r u ns h1 h2 =>
  intro a;have hm:=zLY hx (m:=9) (by omega);have hw:=qF (x.tmod 9-4) (by omega);rw[zAs];split
  ·rw[show yU (.mk i 0 n r u [] ns) x=.mk i 0 (x.tmod 9-4) r u [] ns by simp[yU,twN,hw]];exact .int _ _ _ _ _ _ (by omega) (by omega)
  ·exact .int _ _ _ _ _ _ h1 h2
 | bool env i n r u ns h =>
  intro a;have hw:=qF (1-n) (by omega);rw[zAs];split
  ·rw[show yU (.mk i 1 n r u [] ns) x=.mk i 1 (1-n) r u [] ns by simp[yU,twN,hw]];exact .bool _ _ _ _ _ _ (by omega)
  ·exact .bool _ _ _ _ _ _ h
 | var env i n r u ns t h =>
  intro a;rw[zAs];split
  ·exact .var _ _ _ _ _ _ _ h
  ·exact .var _ _ _ _ _ _ _ h
 | call env i n r u ks ns hn d hd hk hl hw ih =>
  intro a;have hA:=zAW x ks (a-1);rw[zAs];split
  ·exact .call _ _ _ _ _ _ _ hn d hd hk hl hw
  ·exact .call _ _ _ _ _ _ _ (by show (qV ks (a-1) x).1.length≤_; rw[hA.len]; exact hn) d hd hk (by show (qV ks (a-1) x).1.length=_; rw[hA.len]; exact hl) fun j hj =>
    zDw (hw j (by rw[←hA.len]; exact hj)) (ih j (by rw[←hA.len]; exact hj)) (hA.get j _ hj)
 | op env i n r u ks ns hn ts t ho hl hw ih =>
  intro a;have hA:=zAW x ks (a-1);rw[zAs];split
  ·have hm:=zLY hx (m:=5) (by omega);have hop:∀n',OpT n' ts t→WE q env (.mk i 4 n' r u ks ns) t:=fun n' ho'=>.op _ _ _ _ _ _ _ hn ts t ho' hl hw
   cases ho with
   | arith n h1 h2 =>
    rw[show yU (.mk i 4 n r u ks ns) x=.mk i 4 (x.tmod 5) r u ks ns by simp[yU,twN,h2]];exact hop _ (.arith _ (by omega) (by omega))
   | less=>exact hop _ .less
   | same u'=>exact hop _ (.same u')
   | andor n h =>
    have hw15:=qF (15-n) (by omega);have h4:¬n≤4:=by omega
    rw[show yU (.mk i 4 n r u ks ns) x=.mk i 4 (15-n) r u ks ns by simp[yU,twN,h4,h,hw15]];exact hop _ (.andor _ (by omega))
   | not=>exact hop _ .not
   | join t'=>exact hop _ (.join t')
   | len t'=>exact hop _ (.len t')
  ·exact .op _ _ _ _ _ _ _ (by show (qV ks (a-1) x).1.length≤_; rw[hA.len]; exact hn) ts t ho (by show (qV ks (a-1) x).1.length=_; rw[hA.len]; exact hl) fun j hj =>
    zDw (hw j (by rw[←hA.len]; exact hj)) (ih j (by rw[←hA.len]; exact hj)) (hA.get j _ hj)
 | ite env i n r u a b c ns t ha hb hc i1 i2 i3 =>
  intro m;rw[zAs];split
  ·exact .ite _ _ _ _ _ _ _ _ _ _ ha hc hb
  ·have hA:=zAW x [a,b,c] (m-1);show WE q env (.mk i 5 n r u (qV [a,b,c] (m-1) x).1 ns) t;generalize (qV [a,b,c] (m-1) x).1=L at hA;cases hA with | cons k1 hA=>cases hA with | cons k2 hA=>cases hA with | cons k3 hA =>
   cases hA;exact .ite _ _ _ _ _ _ _ _ _ _ (zDw ha i1 k1) (zDw hb i2 k2) (zDw hc i3 k3)
 | lets env i n r u a b ns v t hf ha hb i1 i2 =>
  intro m;rw[zAs];split
  ·exact .lets _ _ _ _ _ _ _ _ _ _ hf ha hb
  ·have hA:=zAW x [a,b] (m-1);show WE q env (.mk i 6 n r u (qV [a,b] (m-1) x).1 ns) t;generalize (qV [a,b] (m-1) x).1=L at hA;cases hA with | cons k1 hA=>cases hA with | cons k2 hA =>
   cases hA;exact .lets _ _ _ _ _ _ _ _ _ _ hf (zDw ha i1 k1) (zDw hb i2 k2)
 | record env i n r u ks ns hn d hd hk hl hw ih =>
  intro a;have hA:=zAW x ks (a-1);rw[zAs];split
  ·exact .record _ _ _ _ _ _ _ hn d hd hk hl hw
  ·exact .record _ _ _ _ _ _ _ (by show (qV ks (a-1) x).1.length≤_; rw[hA.len]; exact hn) d hd hk (by show (qV ks (a-1) x).1.length=_; rw[hA.len]; exact hl) fun j hj =>
    zDw (hw j (by rw[←hA.len]; exact hj)) (ih j (by rw[←hA.len]; exact hj)) (hA.get j _ hj)
 | field env i r u a ns d j hd hk hj ha ih =>
  intro m;rw[zAs];split
  ·exact .field _ _ _ _ _ _ d j hd hk hj ha
  ·have hA:=zAW x [a] (m-1);show WE q env (.mk i 8 j r u (qV [a] (m-1) x).1 ns) _;generalize (qV [a] (m-1) x).1=L at hA;cases hA with | cons k1 hA =>
   cases hA;exact .field _ _ _ _ _ _ d j hd hk hj (zDw ha ih k1)
 | case env i r u a ns d j hd hk hj ha ih =>
  intro m;rw[zAs];split
  ·exact .case _ _ _ _ _ _ d j hd hk hj ha
  ·have hA:=zAW x [a] (m-1);show WE q env (.mk i 9 j r u (qV [a] (m-1) x).1 ns) _;generalize (qV [a] (m-1) x).1=L at hA;cases hA with | cons k1 hA =>
   cases hA;exact .case _ _ _ _ _ _ d j hd hk hj (zDw ha ih k1)
 | mtch env i n r u a ks ns d t hf hd hk hl ha hw i1 ih =>
  intro m;rw[zAs];split
  ·exact .mtch _ _ _ _ _ _ _ _ d _ hf hd hk hl ha hw
  ·have hA:=zAW x (a::ks) (m-1);show WE q env (.mk i 10 n r u (qV (a::ks) (m-1) x).1 ns) _;generalize (qV (a::ks) (m-1) x).1=L at hA;cases hA with | @cons _ a' _ ks' k1 hA =>
   exact .mtch _ _ _ _ _ _ _ _ d _ hf hd hk (by rw[hA.len]; exact hl) (zDw ha i1 k1) fun j hj=>zDw (hw j (by rw[←hA.len]; exact hj)) (ih j (by rw[←hA.len]; exact hj)) (hA.get j _ hj)
 | list env i n r u ks ns t hn hw ih =>
  intro a;have hA:=zAW x ks (a-1);rw[zAs];split
  ·exact .list _ _ _ _ _ _ _ _ hn hw
  ·exact .list _ _ _ _ _ _ _ _ (by show (qV ks (a-1) x).1.length≤_; rw[hA.len]; exact hn) fun j hj=>zDw (hw j (by rw[←hA.len]; exact hj)) (ih j (by rw[←hA.len]; exact hj)) (hA.get j _ hj)
 | fold env i n r u l s b ns v t hf hl hs hb i1 i2 i3 =>
  intro m;rw[zAs];split
  ·exact .fold _ _ _ _ _ _ _ _ _ _ _ hf hl hs hb
  ·have hA:=zAW x [l,s,b] (m-1);show WE q env (.mk i 12 n r u (qV [l,s,b] (m-1) x).1 ns) t;generalize (qV [l,s,b] (m-1) x).1=L at hA;cases hA with | cons k1 hA=>cases hA with | cons k2 hA=>cases hA with | cons k3 hA =>
   cases hA;exact .fold _ _ _ _ _ _ _ _ _ _ _ hf (zDw hl i1 k1) (zDw hs i2 k2) (zDw hb i3 k3)
end Go.Proofs.YthglhccibdlccaaGreatDoor
namespace Go.Proofs.YthglhccibdlccaaGreatDoor
open Go Go.Abs
theorem zT6 (pv ps pe:Value)(w:World) :
 CallsDIn Fence.wide 0 Tryz.prog 112 #[pv,ps,pe] .returning w fun e u' w'=>e=.returned (.tuple #[])∧u'=.returning∧w'=w:=by
 refine callsDIn_of_wpSIn Tryz.func112 rfl trivial fun c₀ cs hu=>?_
 apply wpSIn_seq;apply wpSIn_region;simp[wpOpsSIn,go_sem,recoverD,hu,Tryz.ntmps112,Exit.thenS];apply wpSIn_seq;apply wpSIn_region;simp[wpOpsSIn,go_sem,Exit.thenS];refine wpSIn_cond (t:=false) (by simp[Act.eval,Array.replicate]) ?_;simp only[jAc,if_false];refine wpSIn_of_wpIn rfl (wpIn_skip ?_);cases c₀;simp_all [bodyPostS,results,Tryz.results112]
theorem qAa (k:Int)(w:World):(Instr.typeAssert (zPb k) 20 51 true).run Tryz.prog w=.ok (.tuple #[.int .i64 k,.bool true]) w:=by
 have hu:Tryz.prog.underlying 51=some (.int .i64):=by kernel_rfl
 simp[Instr.typeAssert,run_underlying hu]
def qGZ:List KG:=[⟨none,.build (some 17) [(.int .i64 0),(.int .i64 0),(.slice none 0 0)] []⟩,⟨none,.mov (some 18) (.tmp 4)⟩,⟨none,.st none (.tmp 0) (.tmp 17) 3⟩,⟨none,.st none (.tmp 1) (.const (.int .i64 0)) 1⟩,⟨none,.st none (.tmp 2) (.tmp 18) 1⟩]
theorem zOX {H:Mem}{L:List LI} {σ : St}{w:World}{vs:List Value}{q0 q1 q2:Nat}{k:Int}{older:List PanicEntry}(hs:RelSt H L σ w)(hv:zY H L [.ptr q0 0,.ptr q1 0,.ptr q2 0] vs)
 {x0 y0 z0 x1 x2:A}(b0 : σ[q0]?=some (.box [x0,y0,z0]))(b1 : σ[q1]?=some (.box [x1]))(b2 : σ[q2]?=some (.box [x2]))(n1:q0≠q1)(n2:q0≠q2)(n3:q1≠q2) :
 CallsDIn Fence.wide 0 Tryz.prog 112 vs.toArray (.panicking ({v:=zPb k,recovered:=false}::older)) w fun e u' w'=>e=.returned (.tuple #[])∧u'=.panicking ({v:=zPb k,recovered:=true}::older) ∧
  ∃H' L',Nxt H L w H' L' (((σ.set q0 (.box [int 0,int 0,.nil])).set q1 (.box [int 0])).set q2 (.box [int k])) w':=by
 obtain⟨pv,vs',rfl,h0,hv⟩:=qB hv;obtain⟨ps,vs',rfl,h1,hv⟩:=qB hv;obtain⟨pe,vs',rfl,h2,hv⟩:=qB hv;rw[jR hv];refine callsDIn_of_wpSIn Tryz.func112 rfl trivial fun c₀ cs hu=>?_
 apply wpSIn_seq;apply wpSIn_region;simp[wpOpsSIn,go_sem,recoverD,hu,Tryz.ntmps112,Exit.thenS];apply wpSIn_seq;apply wpSIn_region;simp[wpOpsSIn,go_sem,Exit.thenS];refine wpSIn_cond (t:=true) (by simp[Act.eval,Array.replicate]) ?_;simp only[if_true];apply wpSIn_seq;apply wpSIn_region;simp[wpOpsSIn,go_sem,Exit.thenS,qAa];apply wpSIn_seq;apply wpSIn_seq;apply wpSIn_region;simp[wpOpsSIn,go_sem,Exit.thenS];refine wpSIn_cond (t:=false) (by simp[Act.eval,Array.replicate]) ?_;simp only[jAc,if_false];refine wpSIn_of_wpIn rfl (wpIn_skip ?_);simp only[Exit.thenS];refine wpSIn_of_wpIn rfl ?_;refine zLE (n0:=L.length) (hint:=zA1) (l:=qGZ) (by kernel_rfl) (Q:=fun x env τ=>x=.norm∧τ = ((σ.set q0 (.box [int 0,int 0,.nil])).set q1 (.box [int 0])).set q2 (.box [int k])) (N:=19) (env:=qT [(0,.ptr q0 0),(1,.ptr q1 0),(2,.ptr q2 0),(4,int k)]) ?_ hs ?_ fun e a' w' hp=>?_
 ·refine⟨by simp,fun t=>?_⟩;rcases zEB [(0,.ptr q0 0),(1,.ptr q1 0),(2,.ptr q2 0),(4,int k)] t with h | h
  ·rw[h]; simp[Rel]
  ·generalize qT [(0,.ptr q0 0),(1,.ptr q1 0),(2,.ptr q2 0),(4,int k)] t=a at h;simp only[jA3,jBb,jAw,or_false]at h;rcases h with ⟨rfl,rfl⟩ | ⟨rfl,rfl⟩ | ⟨rfl,rfl⟩ | ⟨rfl,rfl⟩
   ·simpa using h0
   ·simpa using h1
   ·simpa using h2
   ·simp[Rel,Array.getElem?_append]
 ·unfold qGZ;simp[b0,b1,b2,n1,n2,n3,jDr]
 ·obtain⟨x,env',τ,H',L',rfl,g2,g3,g4,rfl,rfl⟩:=hp;refine⟨g2,_,rfl,.tuple #[],?_,rfl,rfl,H'.1,H'.2,L',g4⟩;simp[results,Tryz.results112]
end Go.Proofs.YthglhccibdlccaaGreatDoor
namespace Go.Proofs.YthglhccibdlccaaGreatDoor
open Go.Abs
section
variable {p:Prg}{ev:Evl}
end
@[simp] theorem qQc:zA Tryz.prog 49=true:=by kernel_rfl
def TwQ (e e':Exp):Prop:=Ids e e'∧∀(q:Prg) (env:List Bnd) (u:Typ),WE q env e u→WE q env e' u
theorem zXM (e:Exp):TwQ e e:=⟨.rfl' e,fun _ _ _ h=>h⟩
theorem zXN (e e':Exp)(a x:Int)(hx:0≤x)(h:TwQ e e'):TwQ e (zAc e' a x).1:=⟨h.1.trans (zNk e' a x),fun q env u hw=>qLo hx (h.2 q env u hw) a⟩
abbrev TwP (p q:Prg):Prop:=Al (TwD TwQ) p.defs q.defs
theorem qAj (p:Prg)(l:List Int)(hl:∀x∈l,w64 x=x)(i:Nat):TwP p ⟨p.mods,zDx l p.defs i⟩:=zQw zXM zXN l hl p.defs i
section
variable {p q:Prg}(hA:TwP p q)
include hA
theorem TwP.find (r:Id):(jO p.defs r=none∧jO q.defs r=none)∨∃d d',jO p.defs r=some d∧jO q.defs r=some d'∧TwD TwQ d d' :=
 Al.find (idf:=Dfn.id) (fun _ _ h=>by rw[h.eq]; rfl) hA r
theorem TwP.to0:zJ3 p q:=Al.imp (fun _ _ h=>h.s0) hA
theorem TwP.key (r:Id)(d:Dfn)(hd:jO p.defs r=some d):∃d',jO q.defs r=some d'∧d'=d.wb d'.body:=by
 rcases TwP.find hA r with ⟨h1,_⟩ | ⟨a,b,h1,h2,h⟩
 ·rw[h1]at hd; cases hd
 ·rw[h1]at hd; cases hd; exact⟨b,h2,h.eq⟩
theorem TwP.fit {hs:List Hd}(hf:Fit p hs):Fit q hs:=by
 refine⟨?_,by rw[hA.len]; exact hf.len5,by rw[hA.len]; exact hf.len8,?_,fun d' hd'=>?_,fun d' hd'=>?_,fun r d' hd' hb=>?_⟩
 ·rw[←hf.heads];exact Al.map (f:=Dfn.hd) (g:=Dfn.hd) (fun a b h=>by rw[h.eq]; rfl) hA
 ·refine Al.pair (S:=fun a b:Dfn=>a.id≠b.id) (fun a b a' b' h h' hne=>?_) hA hf.nd;rw[h.eq,h'.eq];exact hne
 ·obtain⟨d,hd,h⟩:=hA.mem hd';have:=hf.slots d hd;rw[h.eq];exact this
 ·obtain⟨d,hd,h⟩:=hA.mem hd';have:=hf.kinds d hd;rw[h.eq];exact this
 ·rcases TwP.find hA r with ⟨_,h2⟩ | ⟨d,d'',h1,h2,h⟩
  ·rw[h2]at hd'; cases hd'
  ·rw[h2]at hd';cases hd';have he:zBk d'=zBk d:=by rw[h.eq]; rfl
   have hr:d'.res=d.res:=by rw[h.eq]; rfl
   have hk:d'.kind=d.kind:=by rw[h.eq]; rfl
   have hb':zB3 d=true:=by unfold zB3 at hb ⊢; rw[←hk]; exact hb
   rw[he,hr];exact h.q.2 q _ _ (qLw (TwP.key hA) (hf.bods r d h1 hb'))
theorem TwP.nodes:((zAi q.defs).map Exp.id).Perm ((zAi p.defs).map Exp.id):=by
 have key:∀{l m:List Dfn},Al (TwD TwQ) l m→((zAi m).map Exp.id).Perm ((zAi l).map Exp.id):=fun {l m} h=>by
  induction h with
  | nil=>exact .refl _
  | @cons a b l m h _ ih =>
   have e:∀(x:Dfn) (L:List Dfn),zAi (x::L)=(if zAI x.kind then zAm x.body else [])++zAi L:=fun _ _=>rfl
   have hk:b.kind=a.kind:=by rw[h.eq]; rfl
   rw[e,e,hk,jB1,jB1];refine List.Perm.append ?_ ih;by_cases hb:zAI a.kind=true
   ·rw[if_pos hb,if_pos hb]; exact h.q.1.2
   ·rw[if_neg hb,if_neg hb]
 exact key hA
end
theorem zLz {α β : Type}{g : α→β}:∀{L:List α},(L.map g).Nodup→∀{a b : α},a∈L→b∈L→g a=g b→a=b
 | [],_,a,b,ha,_,_=>by simp at ha
 | x::L,h,a,b,ha,hb,e=>by
  rw[jAj,jCf]at h;rcases jA3.1 ha with rfl | ha'<;>rcases jA3.1 hb with rfl | hb'
  ·rfl
  ·exact(h.1 (e▸jAi.2 ⟨b,hb',rfl⟩)).elim
  ·exact(h.1 (e▸jAi.2 ⟨a,ha',rfl⟩)).elim
  ·exact zLz h.2 ha' hb' e
def NdN (p:Prg):Prop:=((zAi p.defs).map Exp.id).Nodup
theorem NdN.eq {p:Prg}(h:NdN p){a b:Exp}(ha:a∈zAi p.defs)(hb:b∈zAi p.defs)(he:a.id=b.id):a=b:=zLz h ha hb he
theorem TwP.nd {p q:Prg}(hA:TwP p q)(h:NdN p):NdN q:=(TwP.nodes hA).nodup_iff.2 h
mutual
theorem zMF (f:Int→Id):∀e:Exp,((zAm (zBU f e)).map Exp.id).Perm ((tmps e).map f)
 | .mk i n m r t ks ns=>by rw[zBU,zAm,jAj,tmps,jB1];exact((zKB f ks).cons _).trans (List.perm_append_singleton _ _).symm
theorem zKB (f:Int→Id):∀l:List Exp,((zAe (zF7 f l)).map Exp.id).Perm ((jL l).map f)
 | []=>by rw[zF7,zAe,jL]; exact List.Perm.refl _
 | e::l=>by rw[zF7,zAe,jL,jB1,jB1];exact(zMF f e).append (zKB f l)
end
theorem PrgOk.ndN {l:List Int}(hl:∀x∈l,w64 x=x){P:Prg}(h:PrgOk l P):NdN P:=by
 obtain⟨hnm,hnm2⟩:=zOl l hl;generalize hN:nmV l=nm at *
 have m1:1≤(nm:Int):=by omega
 have m2:(nm:Int)≤2:=by omega
 obtain⟨n5,n8⟩:=zAE l (nm:Int);have hh:=h.heads;rw[hN]at hh;have hlen:P.defs.length=(qC l nm).length:=by have:=congrArg List.length hh; simpa using this
 have hpl:=zBs l nm m1 m2 hl;have hrange:=fun i=>zCw (show 0≤(nm:Int) by omega) (fun p hp=>(hpl p hp).t6) i
 obtain⟨base,hb0,hbs⟩:=h.bodies;rw[hN]at hb0 hbs;have hbase:∀k,k≤P.defs.length→zA9 nm (qC l nm) (qC l nm).length≤base k∧base k≤zA9 nm (qC l nm) (qC l nm).length+32768*k:=by
  intro k;induction k with
  | zero=>intro _; rw[hb0]; omega
  | succ k ih =>
   intro hk;have ih:=ih (by omega);rcases hbs k P.defs[k] (jA2 (by omega))with ⟨_,_,e⟩ | ⟨_,e,f,hr,e'⟩
   ·rw[e]; omega
   ·rw[e'];have:=hr.len;omega
 have hmono:∀a b,a≤b→b≤P.defs.length→base a≤base b:=by
  intro a b hab;induction b with
  | zero=>intro _; have:a=0:=by omega
          rw[this]; omega
  | succ b ih =>
   intro hb;by_cases e0:a=b+1
   ·rw[e0]; omega
   ·have ih:=ih (by omega) (by omega);rcases hbs b P.defs[b] (jA2 (by omega))with ⟨_,_,e⟩ | ⟨_,e,f,hr,e'⟩
    ·rw[e]; exact ih
    ·rw[e']; omega
 have hr0:=hrange (qC l nm).length;have key:∀(k:Nat) (hk:k<P.defs.length),zAI P.defs[k].kind=true→((zAm P.defs[k].body).map Exp.id).Nodup∧∀y∈zAm P.defs[k].body,∃j:Int,y.id=idR j∧base k≤j∧j<base (k+1)∧0≤j∧j≤1000000000000000:=by
  intro k hk hb;have hB:zB3 P.defs[k]=true:=zE4 hb;have hbk:=hbase k (by omega);rcases hbs k P.defs[k] (jA2 hk)with ⟨h0,_,_⟩ | ⟨_,e,f,hr,e'⟩
  ·rw[h0]at hB; cases hB
  ·have hlt:=hr.len;have hp:=zMF f e;rw[←hr.body]at hp;constructor
   ·rw[hp.nodup_iff];unfold List.Nodup;rw[jD0];refine hr.nd.imp_of_mem fun {a b} ha hb' hne he=>hne ?_
    obtain⟨j,hj,rfl⟩:=jAh ha;obtain⟨j',hj',rfl⟩:=jAh hb';rw[hr.ids j hj,hr.ids j' hj']at he;have:=zFf (by omega) (by omega) (by omega) (by omega) he;have:j=j':=by omega
    subst this;rfl
   ·intro y hy;have:y.id∈(tmps e).map f:=hp.mem_iff.1 (jAi.2 ⟨y,hy,rfl⟩);obtain⟨c,hc,hc'⟩:=jAi.1 this;obtain⟨j,hj,rfl⟩:=jAh hc;rw[hr.ids j hj]at hc';exact⟨_,hc'.symm,by omega,by omega,by omega,by omega⟩
 unfold NdN zAi;rw[List.map_flatMap];unfold List.Nodup;rw[List.pairwise_flatMap];refine⟨fun d hd=>?_,?_⟩
 ·obtain⟨k,hk,rfl⟩:=jAh hd;by_cases hb:zAI P.defs[k].kind=true
  ·rw[if_pos hb]; exact(key k hk hb).1
  ·rw[if_neg hb]; exact List.Pairwise.nil
 ·rw[jCd];intro k k' hk hk' hlt x hx y hy he;by_cases hb:zAI P.defs[k].kind=true
  ·by_cases hb':zAI P.defs[k'].kind=true
   ·rw[if_pos hb]at hx;rw[if_pos hb']at hy;obtain⟨a,ha,rfl⟩:=jAi.1 hx;obtain⟨b,hb2,rfl⟩:=jAi.1 hy;obtain⟨j,a1,a2,a3,a4,a5⟩:=(key k hk hb).2 a ha;obtain⟨j',b1,b2,b3,b4,b5⟩:=(key k' hk' hb').2 b hb2;have hjj:=zFf a4 a5 b4 b5 (a1.symm.trans (he.trans b1));have:=hmono (k+1) k' (by omega) (by omega);omega
   ·rw[if_neg hb']at hy; simp at hy
  ·rw[if_neg hb]at hx; simp at hx
end Go.Proofs.YthglhccibdlccaaGreatDoor
namespace Go.Proofs.YthglhccibdlccaaGreatDoor
open Go Go.Abs
def qJN:List KG:=[⟨none,.box (some 3) (.tmp 0)⟩,⟨none,.alloc (some 6) [(.int .i64 0),(.int .i64 0),(.slice none 0 0)]⟩,⟨none,.alloc (some 7) [(.int .i64 0)]⟩,⟨none,.alloc (some 8) [(.int .i64 0)]⟩]
def qJO:List KG:=[⟨none,.ld (some 10) (.tmp 3) 2 true⟩,⟨none,.mov (some 11) (.tmp 1)⟩,⟨none,.mm (some 12) true [(.tmp 11),(.const (.int .i64 0))]⟩,
 ⟨none,.build (some 13) [(.slice none 0 0),(.slice none 0 0),(.int .i64 0),(.int .i64 0)] [(0,2,(.tmp 10)),(2,1,(.tmp 12))]⟩,⟨none,.box (some 14) (.tmp 13)⟩,⟨none,.mov (some 9) (.tmp 14)⟩]
def zZx:List KG:=[⟨none,.mov (some 16) (.tmp 2)⟩,⟨none,.mov (some 17) (.tmp 9)⟩,⟨none,.call (some 18) (.tmp 16) [(.tmp 17)]⟩,⟨none,.st none (.tmp 6) (.tmp 18) 3⟩]
def qJP:List KG:=[⟨none,.addr (some 19) (.tmp 6) 2⟩,⟨none,.ld (some 20) (.tmp 19) 1 false⟩,⟨none,.call (some 21) (.func 113) [(.tmp 20)]⟩,⟨none,.addr (some 22) (.tmp 6) 2⟩,⟨none,.st none (.tmp 22) (.tmp 21) 1⟩]
def qJQ:List (Nat×Nat×KG):=[(0,0,⟨none,.ld (some 23) (.tmp 6) 3 true⟩),(1,0,⟨none,.mov (some 24) (.tmp 9)⟩),(2,0,⟨none,.nilc (some 25) (.tmp 24)⟩),(3,2,⟨none,.addr (some 26) (.tmp 25) 3⟩),(4,2004,⟨none,.ld (some 27) (.tmp 26) 1 false⟩),
 (5,1004,⟨none,.st none (.tmp 6) (.tmp 23) 3⟩),(6,0,⟨none,.st none (.tmp 7) (.tmp 27) 1⟩),(7,0,⟨none,.st none (.tmp 8) (.const (.int .i64 0)) 1⟩)]
def hDo:Nat→Option (List (Nat×Nat)):=fun r=>match r with | 5=>some [(0,0),(1,0),(2,0),(3,2),(4,2004),(5,1004),(6,0),(7,0)] | _=>none
def dfr (pv ps pe:Value):Deferred:={target:=.fn (.func 112) #[pv,ps,pe],args:=#[]}
abbrev sDo (D:St)(p:Prg)(F:Int)(v:Val)(n e:Int)(s:XS):St:=D++[.box (zS p),.box (zJ v),.box [int n],.box [int e]]++eS p F s
def zL6 (F:Int)(r:Val×XS):A:=if r.2.fail=0 then .tup [.agg (zJ r.1),int (F-r.2.fuel),int 0] else .tup [.agg (zJ vz),int 0,int r.2.fail]
def qCo:K:=G [kZ 4 [ki,ki,kl]] (G [M 5 0,J 6 1 31,L 7 2 1,kC 8 68 [(kt 5),(kt 6),(kt 7)],S 4 8 3] kr)
theorem qI0:zL Tryz.prog Tryz.f67.ntmps (Tryz.f67.body.getD .skip)=some qCo.erase:=by kernel_rfl
@[simp] theorem qOX:zA Tryz.prog 67=true:=by kernel_rfl
section
variable {p:Prg}{F:Int}{d:Dfn}{us:List Val}{s:XS}{r:Val×XS}
abbrev dA (d:Dfn)(us:List Val):St:=[.box (zO d),.box [.sl us.length (zV us)]]
abbrev qQQ (F:Int):List (Nat×A):=[(1,int F),(2,.clo 67 [] [.ptr 0 0,.ptr 1 0]),(3,.ptr 2 0),(6,.ptr 3 0),(7,.ptr 4 0),(8,.ptr 5 0)]
abbrev zRx:List (Nat×A):=[(2,.clo 67 [] [.ptr 0 0,.ptr 1 0]),(6,.ptr 3 0),(7,.ptr 4 0),(8,.ptr 5 0),(9,.ptr 6 0)]
theorem qDp (hF0:0≤F)(hs:s.fuel=F)(hz:r.2.fail=0→qI r.1≤256)
 (hret:r.2.fail=0→Ret Tryz.prog 67 [.ptr 0 0,.ptr 1 0,.ptr 2 0] (eS p F s++dA d us) (.agg (zJ r.1)) (eS p F r.2++dA d us))
 (hpan:r.2.fail≠0→yX Tryz.prog 67 [.ptr 0 0,.ptr 1 0,.ptr 2 0] (eS p F s++dA d us) fun o σ'=>o=.pan (zPb r.2.fail)∧σ'[1]?=some (.box (zO d))∧σ'[2]?=some (.box [.sl us.length (zV us)])) :
 Ret Tryz.prog 66 [.agg (zS p),int F,.clo 67 [] [.ptr 0 0,.ptr 1 0]] (dA d us) (zL6 F r) (dA d us):=by
 have hP:=eP p;refine zFu (fun H L w vs hst hargs=>?_);have hL:L.length=2:=hst.len
 suffices h:∀R:Ending→World→Prop,(∀(v:Value) (σ':St) (H':Mem) (L':List LI) (w':World) (r':A),Rel H' L' r' v→Nxt H L w H' L' σ' w'→zGS 2 (zL6 F r) (dA d us) (.ret r') σ'→R (.returned v) w')→CallsIn Fence.wide 0 Tryz.prog 66 vs.toArray w R from
  callsIn_wide.1 (h _ fun v σ' H' L' w' r' g1 g2 g3=>⟨.ret r',σ',H',L',⟨v,rfl,g1⟩,g2,g3⟩)
 intro R hR;refine callsIn_of_wp_defers (n:=0) (F:=Fence.wide) Tryz.func66 rfl trivial ?_;refine zIv (n0:=2) (hint:=hDo) (l:=qJN) (N:=28) (by kernel_rfl) (zJ4 hargs _) hst (Q:=fun x env τ=>x=.norm∧zBL 2 (qT (qQQ F))
  (dA d us++[.box (zS p),.box (zJ vz),.box [int 0],.box [int 0]]) env τ) ?_ (fun env' τ H' L' w' a' hd' he' hn' hq'=>?_) (fun x _ _ _ _ _ _ hx _ _ _ hq=>(hx hq.1).elim)
 ·unfold qJN;simp[hP];exact zR [0,1,2,3,4,5] 0 (by decide) (by simp) (by simp[zJ,qG,zZ,zM]) (by simp)
 obtain⟨H',L',hn',he'⟩:=hq'.2 _ _ _ _ _ _ _ _ hL hn' he';refine zIv (n0:=2) (hint:=hDo) (l:=qJO) (N:=28) (by kernel_rfl) he' hn'.st (Q:=fun x env τ=>x=.norm∧zBL 2 (qT zRx) (sDo (dA d us) p F vz 0 0 s) env τ)
  ?_ (fun env' τ H1 L1 w' a' hd'' he1 hn1 hq1=>?_) (fun x _ _ _ _ _ _ hx _ _ _ hq=>(hx hq.1).elim)
 ·unfold qJO;simp[hP];exact zR [0,1,2,3,4,5,6] 0 (by decide) (by simp) (by simp[zJ,qG,zZ,zM,eS,hP,hs]; omega) (by simp)
 rw[hd']at hd'';obtain⟨H',L',hn',he'⟩:=hq1.2 _ _ _ _ _ _ _ _ hL (hn'.trans hn1) he1;have hmf:∀(fn:Fn) (first cap:Array Value) (w:World),(Instr.makeFunc fn first cap).run Tryz.prog w=.ok (.func fn first cap) w:=fun _ _ _ _=>rfl
 have hsz:28≤a'.tmps.size:=he'.1;have hsz':15<a'.tmps.size:=by omega
 refine wpIn_seq (wpIn_region_list ?_);simp only[wpListIn];simp[Region.wanted,Oper.wpIn,Oper.uponIn,go_sem,hmf,Exit.then,hsz',hd'',wpListIn];have h6:=he'.2 6;have h7:=he'.2 7;have h8:=he'.2 8;rw[jE]at h6 h7 h8;have he3:∀X,qJ H' L' 28 (qT zRx) (a'.tmps.setIfInBounds 15 X):=fun X=>by
  have:=he'.put (a:=a') (d:=some 15) (fun x hx=>by cases hx; omega) (r:=.any) (v:=X) (by simp[Rel]);have h15:Env.put (qT zRx) (some 15) .any=qT zRx:=by
   funext t;simp only[Env.put];split
   ·rename_i ht; subst ht; rfl
   ·rfl
  rw[h15]at this;exact this
 generalize a'.tmps[6]?.getD undef=pv at *
 generalize a'.tmps[7]?.getD undef=ps at *
 generalize a'.tmps[8]?.getD undef=pe at *
 have he3:=he3 (Value.func (Fn.func 112) #[] #[pv,ps,pe]);generalize a'.tmps.setIfInBounds 15 (Value.func (Fn.func 112) #[] #[pv,ps,pe])=tm at *
 have idle:∀(pv ps pe:Value) (tm:Array Value) (w3:World) (v:Value),(results Tryz.f66 tm).run Tryz.prog w3=.ok v w3→R (.returned v) w3→LeavesIn Fence.wide 0 Tryz.prog Tryz.f66 tm R [dfr pv ps pe] .returning w3:=fun pv ps pe tm w3 v g1 g2=>by refine leavesIn_cons (f:=112) (args:=#[pv,ps,pe]) (by simp) (by simp[Fence.wide]) (by simp[go_sem]) (fun _ _=>trivial) ?_;refine(zT6 pv ps pe w3).mono ?_;rintro e u' w'' ⟨rfl,rfl,rfl⟩;exact⟨v,g1,g2⟩
 by_cases hf:r.2.fail=0
 ·refine zIv (n0:=2) (hint:=hDo) (l:=zZx) (N:=28) (by kernel_rfl) he3 hn'.st (Q:=fun x env τ=>x=.norm∧zBL 2 (qT zRx) (sDo (dA d us) p F r.1 0 0 r.2) env τ) ?_
   (fun env' τ H1 L1 w1 a1 hd1 he1 hn1 hq1=>?_) (fun x _ _ _ _ _ _ hx _ _ _ hq=>(hx hq.1).elim)
  ·unfold zZx;simp[eS,hP];refine zN (hret hf) [6,0,1] (by decide) (by simp[eS,hP]) (by simp) ?_;simp[eS,hP,zJ];exact zR [0,1,2,3,4,5,6] 0 (by decide) (by simp) (by simp[zJ]) (by simp)
  obtain⟨H',L',hn',he'⟩:=hq1.2 _ _ _ _ _ _ _ _ hL (hn'.trans hn1) he1;have hco:=zHo r.1.kids (by have:=hz hf; have:=zIy r.1; omega);refine zIv (n0:=2) (hint:=hDo) (l:=qJP) (N:=28) (by kernel_rfl) he' hn'.st (Q:=fun x env τ=>x=.norm∧zBL 2 (qT zRx) (sDo (dA d us) p F r.1 0 0 r.2) env τ) ?_
   (fun env' τ H1 L1 w1 a1 hd2 he1 hn1 hq1=>?_) (fun x _ _ _ _ _ _ hx _ _ _ hq=>(hx hq.1).elim)
  ·unfold qJP;simp[eS,hP,zJ];refine zT hco (by simp) (by simp) ?_;simp[eS,hP,zJ];exact zR [0,1,2,3,4,5,6] 0 (by decide) (by simp) (by simp[zJ]) (by simp)
  obtain⟨H',L',hn',he'⟩:=hq1.2 _ _ _ _ _ _ _ _ hL (hn'.trans hn1) he1;refine zX8 (n0:=2) (hint:=hDo) (l:=qJQ) (N:=28) (by kernel_rfl) he' hn'.st (Q:=fun x env τ=>x=.norm∧zBL 2 (qT zRx) (sDo (dA d us) p F r.1 (F-r.2.fuel) 0 r.2) env τ) ?_
   (fun env' τ H1 L1 w1 a1 hd3 he1 hn1 hq1=>?_) (fun x _ _ _ _ _ _ hx _ _ _ hq=>(hx hq.1).elim)
  ·unfold qJQ;simp[eS,hP,zJ];refine⟨(zI1 (by decide) (by decide)).2 (by simp[zCb]),(zSZ (by decide) (by decide)).2 (by simp[zFg]),?_⟩;exact zR [0,1,2,3,4,5,6] 0 (by decide) (by simp) (by simp[zJ]) (by simp)
  obtain⟨H',L',hn',he'⟩:=hq1.2 _ _ _ _ _ _ _ _ hL (hn'.trans hn1) he1;have hds:a1.defers=[dfr pv ps pe]:=hd3.trans (hd2.trans hd1);refine wpIn_ret ?_;show LeavesIn Fence.wide 0 Tryz.prog Tryz.f66 a1.tmps R a1.defers .returning w1;rw[hds];obtain⟨v,g1,g2⟩:=zGm (P:=Tryz.prog) (fn:=Tryz.f66) (rs:=[.cell 6 3 true,.cell 7 1 false,.cell 8 1 false]) (by kernel_rfl) he' hn'.st (a:=.tup [.agg (zJ r.1),int (F-r.2.fuel),int 0]) (by simp[zRB,zBc,zEo,ldA,zJ]);exact idle pv ps pe _ _ v g1 (hR v _ _ _ _ _ g2 hn' (zG [0,1] 0 (by decide) (by simp) (by simp) (by simp[zL6,hf,zJ])))
 ·refine zIv (n0:=2) (hint:=hDo) (l:=zZx) (N:=28) (by kernel_rfl) he3 hn'.st (Q:=fun x env τ=>x=.pan (zPb r.2.fail)∧(env 6=.ptr 3 0∧env 7=.ptr 4 0∧env 8=.ptr 5 0)∧τ[0]?=some (.box (zO d))∧τ[1]?=some (.box [.sl us.length (zV us)]) ∧
   τ[3]?=some (.box [int 0,int 0,.sl 0 []])∧τ[4]?=some (.box [int 0])∧τ[5]?=some (.box [int 0])) ?_ (fun env' τ H1 L1 w1 a1 hd1 he1 hn1 hq1=>by cases hq1.1) (fun x env' τ H1 L1 w1 a1 hx hd1 he1 hn1 hq1=>?_)
  ·unfold zZx;simp[eS,hP];refine zIA (C:=fun vs w R=>Calls Tryz.prog _ vs.toArray w R) (zEO Tryz.prog _) (hpan hf) [6,0,1] (by decide) (by simp[eS,hP]) (by simp) fun o σ1 h0=>?_
   obtain⟨rfl,g1,g2⟩:=h0;have hlen:∀n,3≤(σ1.map (zBM [6,0,1] n)).length:=fun n=>by rw[jAa];exact(jA4.1 g2).1
   refine⟨rfl,⟨rfl,rfl,rfl⟩,?_,?_,?_,?_,?_⟩
   ·rw[zDE (js:=[6,0,1]) (hlen _) (by decide) (by simp) (i:=1) rfl,jBd];simp[g1,zBM,vwO]
   ·rw[zDE (js:=[6,0,1]) (hlen _) (by decide) (by simp) (i:=2) rfl,jBd];simp[g2,zBM,vwO]
   ·rw[zCT (by simp) (by simp)];simp[zJ,qG,zZ,zM]
   ·rw[zCT (by simp) (by simp)];simp
   ·rw[zCT (by simp) (by simp)];simp
  ·obtain⟨rfl,⟨e6,e7,e8⟩,t0,t1,t3,t4,t5⟩:=hq1;have l3:=(jA4.1 t3).1;have l4:=(jA4.1 t4).1;have l5:=(jA4.1 t5).1;have hds:a1.defers=[dfr pv ps pe]:=hd1;show LeavesIn Fence.wide 0 Tryz.prog Tryz.f66 a1.tmps R a1.defers (.panicking [{v:=zPb r.2.fail,recovered:=false}]) w1;rw[hds];refine leavesIn_cons (f:=112) (args:=#[pv,ps,pe]) (by simp) (by simp[Fence.wide]) (by simp[go_sem]) (fun _ _=>trivial) ?_;refine(zOX (vs:=[pv,ps,pe]) hn1.st (qR (Rel.mono hn1.step.hle hn1.lle _ h6) (qR (Rel.mono hn1.step.hle hn1.lle _ h7) (qR (Rel.mono hn1.step.hle hn1.lle _ h8) jZ))) t3 t4 t5 (by decide) (by decide) (by decide)).mono ?_;rintro e u' w'' ⟨rfl,rfl,H2,L2,hn2⟩;obtain⟨v,g1,g2⟩:=zGm (P:=Tryz.prog) (fn:=Tryz.f66) (rs:=[.cell 6 3 true,.cell 7 1 false,.cell 8 1 false]) (by kernel_rfl) (he1.mono hn2.step.hle hn2.lle) hn2.st (a:=.tup [.agg [int 0,int 0,.nil],int 0,int r.2.fail])
    (by simp[zRB,zBc,zEo,ldA,e6,e7,e8,jDr,l3,l4,l5])
   exact⟨v,g1,hR v _ _ _ _ _ g2 (hn'.trans (hn1.trans hn2)) (zG [0,1] 0 (by decide) (by simp) (by simp[t0,t1]) (by simp[zL6,hf,zJ,qG,zZ,zM]))⟩
end
end Go.Proofs.YthglhccibdlccaaGreatDoor
namespace Go.Proofs.YthglhccibdlccaaGreatDoor
open Go.Abs
@[simp] theorem qQv:zA Tryz.prog 14=true:=by kernel_rfl
end Go.Proofs.YthglhccibdlccaaGreatDoor
