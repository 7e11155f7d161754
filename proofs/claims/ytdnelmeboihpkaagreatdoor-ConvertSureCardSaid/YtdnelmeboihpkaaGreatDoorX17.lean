/-
  eval: values, nodes.
  The reference's evaluator: values.
  The reference's tracer: nodes.
  The reference: what the types of a definition's slots reach.
  The arguments that the reference makes fit.
  A run with less fuel does the same, until it has no more.
  eval: nodes; the evaluator does what the data says.
  The reference's evaluator: nodes.
  eval.do: the closure that recovers.
  The reference's Call.
  eval.do: an evaluation whose failure is recovered.
  The reference tracer's Call returns what the program's does.
  eval.Call.
  What a run has asked decides nothing: eval.Call and the reference's call agree.
-/
import Derived.Test.YtdnelmeboihpkaaGreatDoorX16
import Derived.Test.YtdnelmeboihpkaaGreatDoorX13
import Derived.RecoverIn
import Derived.Tactics
import Derived.Tactics2
set_option linter.unusedVariables false
set_option maxHeartbeats 8000000
set_option maxRecDepth 100000
set_option linter.unusedSimpArgs false
namespace Go.Proofs.YtdnelmeboihpkaaGreatDoor
open Go.Abs
section
variable {p:Prg}{F m:Int}{ev:Evl}{B:List Bnd}{e:Exp}{V:List EVar}{v:Val}{s:XS}
def zFy:K:=G [kO 4 1,kZ 6 [ki,ki,kl]] (Z (G [D 9 4 3,L 10 9 1] (K.block 0 (G [kQi 12 10 0 false,M 11 12] (Y 11 (G [D 13 4 4,L 14 13 1,kb 15 [ki,ki,kl] [(1,1,(kt 14))],S 6 15 3] kr) (G [kQi 17 10 1 false,M 16 17] (Y 16 (G [D 18 4 4,L 19 18 1,kQi 20 19 0 true,kC 21 174 [(kt 20)],S 6 21 3] kr) (G [kQi 23 10 2 false,M 22 23] (Y 22 (G [M 24 2,D 25 4 5,J 26 25 3,D 27 4 4,L 28 27 1,kb 29 qI3 [(0,3,(kt 26)),(3,1,(kt 28))],kC 30 175 [(kt 24),(kt 29)],S 6 30 3] kr) (G [kQi 32 10 3 false,M 31 32] (Y 31 (Z (K.dops [(0,0,M 34 0),(1,0,kU 35 34),(2,1,D 36 35 0),(3,1,J 37 36 2),(4,1,D 38 4 5),(5,1,J 39 38 3),(6,1,kC 40 96 [(kt 37),(kt 39)]),(7,0,M 33 40),(8,0,kE 41 33 0),(9,0,kE 42 33 1),(10,0,kZ 7 kz0),(11,0,S 7 41 31),(12,0,M 8 42)]) (Z (K.wk (K.dops [(0,0,M 43 0),(1,2,J 44 7 31),(2,0,M 45 0),(3,0,D 46 4 13),(4,0,L 47 46 1),(5,0,M 48 2),(6,10,kC 49 176 [(kt 45),(kt 47),(kt 48)]),(7,10,kC 50 72 [(kt 43),(kt 44),(kt 49)]),(8,0,S 6 50 3)])) kr)) (G [kQi 52 10 4 false,M 51 52] (Y 51 (Z (K.wk (K.dops [(0,2,D 53 4 4),(1,2,L 54 53 1),(2,0,M 55 0),(3,0,D 56 4 13),(4,0,L 57 56 1),(5,0,M 58 2),(6,10,kC 59 176 [(kt 55),(kt 57),(kt 58)]),(7,0,kC 60 177 [(kt 54),(kt 59)]),(8,0,S 6 60 3)])) kr) (G [kQi 62 10 7 false,M 61 62] (Y 61 (G [M 63 0,D 64 4 13,L 65 64 1,M 66 2,kC 67 176 [(kt 63),(kt 65),(kt 66)],kb 68 [ki,ki,kl] [(0,1,(kc 2)),(2,1,(kt 67))],S 6 68 3] kr) (G [kQi 70 10 9 false,M 69 70] (Y 69 (Z (K.wk (K.dops [(0,2,D 71 4 4),(1,2,L 72 71 1),(2,0,M 73 0),(3,0,D 74 4 13),(4,0,L 75 74 1),(5,0,
 M 76 2),(6,10,kC 77 176 [(kt 73),(kt 75),(kt 76)]),(7,0,kb 78 [ki,ki,kl] [(0,1,(kc 3)),(1,1,(kt 72)),(2,1,(kt 77))]),(8,0,S 6 78 3)])) kr) (G [kQi 80 10 11 false,M 79 80] (Y 79 (G [M 81 0,D 82 4 13,L 83 82 1,M 84 2,kC 85 176 [(kt 81),(kt 83),(kt 84)],kb 86 [ki,ki,kl] [(0,1,(kc 4)),(2,1,(kt 85))],S 6 86 3] kr) ks)))))))))))))))))) (Z (K.wk (K.dops [(0,0,M 87 0),(1,2,J 88 4 15),(2,0,M 89 2),(3,0,M 90 0),(4,0,D 91 4 13),(5,0,L 92 91 1),(6,0,kXi 93 92 15 0),(7,0,J 94 93 15),(8,0,M 95 2),(9,10,kC 96 110 [(kt 90),(kt 94),(kt 95)]),(10,10,kC 97 178 [(kt 87),(kt 88),(kt 89),(kt 96)]),(11,0,S 6 97 3)])) kr))
def qOJ:Nat→Option (List (Nat×Nat)):=fun r=>match r with | 10=>some [(0,0),(1,2),(2,0),(3,0),(4,0),(5,0),(6,10),(7,10),(8,0)] | 12=>some [(0,2),(1,2),(2,0),(3,0),(4,0),(5,0),(6,10),(7,0),(8,0)] | 16=>some [(0,2),(1,2),(2,0),(3,0),(4,0),(5,0),(6,10),(7,0),(8,0)] | 19=>some [(0,0),(1,2),(2,0),(3,0),(4,0),(5,0),(6,0),(7,0),(8,0),(9,10),(10,10),(11,0)] | _=>none
theorem zFB:qF Tryz.prog Tryz.f150.ntmps qOJ (Tryz.f150.body.getD .skip)=some zFy.erase:=by kernel_rfl
@[simp] theorem qNB:zA Tryz.prog 150=true:=by kernel_rfl
abbrev VaE (p:Prg)(F:Int)(e:Exp)(V:List EVar)(s:XS)(r:Val×XS):Prop:=RP 150 [.ptr 0 0,.agg (zR e),scE V] p F s (.agg (zC r.1)) r.2
abbrev AlE (p:Prg)(F:Int)(e:Exp)(V:List EVar)(s:XS)(r:List Val×XS):Prop:=RP 176 [.ptr 0 0,.sl e.kids.length (jR e.kids),scE V] p F s (.sl e.kids.length (zJ r.1)) r.2
@[simp] theorem qEo {σ : St}:zCS 2 σ = []:=rfl
theorem zYb (hs:s.fail=0)(hk:e.k=0):VaE p F e V s (.mk 0 e.n [],s):=by have hP:=eP p;refine⟨fun _=>?_,fun hf=>(hf hs).elim⟩;refine qS Tryz.func150 rfl zFB (rs:=[.cell 6 3 true]) (by kernel_rfl) ?_;unfold zFy;simp[eS,hP,zR,hk];exact zI [0] 0 (by decide) (by simp) (by simp) (by simp[zC,jQ,qP,zV])
theorem zVM (hs:s.fail=0)(hk:e.k=1)(hn:e.n=0∨e.n=1):VaE p F e V s (.mk 1 e.n [],s):=by
 have hP:=eP p;have ht:zBN (decide (¬e.n=0))=.mk 1 e.n []:=by rcases hn with h | h<;>rw[h]<;>rfl
 refine⟨fun _=>?_,fun hf=>(hf hs).elim⟩;have hb:=zAE (decide (¬e.n=0));rw[ht]at hb;refine qS Tryz.func150 rfl zFB (rs:=[.cell 6 3 true]) (by kernel_rfl) ?_;unfold zFy;simp[eS,hP,zR,hk];refine qK hb (by simp) (by simp[zC]) ?_;simp[eS,hP,zC];exact zI [0] 0 (by decide) (by simp) (by simp) (by simp[zC,jQ,qP,zV])
theorem zYd (hs:s.fail=0)(hk:e.k=2):VaE p F e V s (zEu V e.ref e.n,s):=by
 have hP:=eP p;have hfi:=zVB V.reverse e.ref e.n;have hfe:zJp V.reverse e.ref e.n=zEu V e.ref e.n:=rfl;rw[hfe]at hfi;generalize zEu V e.ref e.n=v at *
 refine⟨fun _=>?_,fun hf=>(hf hs).elim⟩;refine qS Tryz.func150 rfl zFB (rs:=[.cell 6 3 true]) (by kernel_rfl) ?_;unfold zFy;simp[eS,hP,zR,hk];refine qK hfi (by simp[zF]) (by simp[zC]) ?_;simp[eS,hP,zC];exact zI [0] 0 (by decide) (by simp) (by simp) (by simp[zC,jQ,qP,zV])
theorem qCa {a:Exp}{ks:List Exp}(hk:e.k=5∨e.k=6∨e.k=8∨e.k=10∨e.k=12)(hks:e.kids=a::ks){r1 r:Val×XS}(ha:zL7 p F a V s r1)(hb:r1.2.fail=0→BrE p F e V r1.1 r1.2 r)(hx:r1.2.fail≠0→r.2=r1.2):VaE p F e V s r:=by
 have hP:=eP p;have hk0:¬e.k=0:=by omega
 have hk1:¬e.k=1:=by omega
 have hk2:¬e.k=2:=by omega
 have hk3:¬e.k=3:=by omega
 have hk4:¬e.k=4:=by omega
 have hk7:¬e.k=7:=by omega
 have hk9:¬e.k=9:=by omega
 have hk11:¬e.k=11:=by omega
 have h15:=qA a ks;by_cases h1:r1.2.fail=0
 ·have hb:=hb h1;have ha:=ha.ret h1;constructor
  ·intro hf;refine qS Tryz.func150 rfl zFB (rs:=[.cell 6 3 true]) (by kernel_rfl) ?_;unfold zFy;simp[eS,hP,zR,hk0,hk1,hk2,hk3,hk4,hk7,hk9,hk11];refine⟨_,_,zP (l:=[(0,.ptr 0 0),(2,scE V),(4,.rptr [int e.id.a,int e.id.b,int e.id.c,int e.k,int e.n,int e.ref.a,int e.ref.b,int e.ref.c,int e.typ.k,int e.typ.id.a,int e.typ.id.b,int e.typ.id.c,.sl e.typ.kids.length (jV e.typ.kids),.sl e.kids.length (jR e.kids),.sl e.names.length (zA7 e.names)]),(6,.ptr 1 0)]) (σ':=eS p F s++[.box [int 0,int 0,.nil]]) [0,2] 1 (by decide) (by simp) (by simp[eS,hP]) (by simp[eS,hP,zR]),?_⟩;simp[eS,hP,zR,hks,h15];refine zCd ha [0] (by decide) (by simp[eS,hP]) (by simp[zR]) ?_;simp[eS,hP,zC];refine zCd (hb.ret hf) [0] (by decide) (by simp[eS,hP]) (by simp[zR,zC,hks,h15]) ?_;simp[eS,hP,zC];exact zI [0] 0 (by decide) (by simp) (by simp) (by simp[zC,jQ,qP,zV])
  ·intro hf;refine zAl Tryz.func150 rfl zFB (rs:=[.cell 6 3 true]) (by kernel_rfl) ?_;unfold zFy wpF;simp[eS,hP,zR,hk0,hk1,hk2,hk3,hk4,hk7,hk9,hk11];refine⟨_,_,zP (l:=[(0,.ptr 0 0),(2,scE V),(4,.rptr [int e.id.a,int e.id.b,int e.id.c,int e.k,int e.n,int e.ref.a,int e.ref.b,int e.ref.c,int e.typ.k,int e.typ.id.a,int e.typ.id.b,int e.typ.id.c,.sl e.typ.kids.length (jV e.typ.kids),.sl e.kids.length (jR e.kids),.sl e.names.length (zA7 e.names)]),(6,.ptr 1 0)]) (σ':=eS p F s++[.box [int 0,int 0,.nil]]) [0,2] 1 (by decide) (by simp) (by simp[eS,hP]) (by simp[eS,hP,zR]),?_⟩;simp[eS,hP,zR,hks,h15];refine zCd ha [0] (by decide) (by simp[eS,hP]) (by simp[zR]) ?_;simp[eS,hP,zC];refine zDe (hb.pan hf) [0] (by decide) (by simp[eS,hP]) (by simp[zR,zC,hks,h15]) fun τ=>?_
   simp
 ·unfold VaE;rw[hx h1];refine⟨fun hf=>(h1 hf).elim,fun hf=>?_⟩;refine zAl Tryz.func150 rfl zFB (rs:=[.cell 6 3 true]) (by kernel_rfl) ?_;unfold zFy wpF;simp[eS,hP,zR,hk0,hk1,hk2,hk3,hk4,hk7,hk9,hk11];refine⟨_,_,zP (l:=[(0,.ptr 0 0),(2,scE V),(4,.rptr [int e.id.a,int e.id.b,int e.id.c,int e.k,int e.n,int e.ref.a,int e.ref.b,int e.ref.c,int e.typ.k,int e.typ.id.a,int e.typ.id.b,int e.typ.id.c,.sl e.typ.kids.length (jV e.typ.kids),.sl e.kids.length (jR e.kids),.sl e.names.length (zA7 e.names)]),(6,.ptr 1 0)]) (σ':=eS p F s++[.box [int 0,int 0,.nil]]) [0,2] 1 (by decide) (by simp) (by simp[eS,hP]) (by simp[eS,hP,zR]),?_⟩;simp[eS,hP,zR,hks,h15];refine zDe (ha.pan hf) [0] (by decide) (by simp[eS,hP]) (by simp[zR]) fun τ=>?_
  simp
theorem zYc {vs:List Val}{s1:XS}(hk:e.k=7)(hl:vs.length=e.kids.length)(ha:AlE p F e V s (vs,s1)):VaE p F e V s (.mk 2 0 vs,s1):=by
 have hP:=eP p;constructor
 ·intro hf;refine qS Tryz.func150 rfl zFB (rs:=[.cell 6 3 true]) (by kernel_rfl) ?_;unfold zFy;simp[eS,hP,zR,hk];refine jN (ha.ret hf) [0] (by decide) (by simp[eS,hP]) (by simp) ?_;simp[eS,hP,zC];exact zI [0] 0 (by decide) (by simp) (by simp) (by simp[zC,jQ,qP,zV,hl])
 ·intro hf;refine zAl Tryz.func150 rfl zFB (rs:=[.cell 6 3 true]) (by kernel_rfl) ?_;unfold zFy wpF;simp[eS,hP,zR,hk];refine zH6 (ha.pan hf) [0] (by decide) (by simp[eS,hP]) (by simp) fun τ=>?_
  simp
theorem zVP {vs:List Val}{s1:XS}(hk:e.k=11)(hl:vs.length=e.kids.length)(ha:AlE p F e V s (vs,s1)):VaE p F e V s (.mk 4 0 vs,s1):=by
 have hP:=eP p;constructor
 ·intro hf;refine qS Tryz.func150 rfl zFB (rs:=[.cell 6 3 true]) (by kernel_rfl) ?_;unfold zFy;simp[eS,hP,zR,hk];refine jN (ha.ret hf) [0] (by decide) (by simp[eS,hP]) (by simp) ?_;simp[eS,hP,zC];exact zI [0] 0 (by decide) (by simp) (by simp) (by simp[zC,jQ,qP,zV,hl])
 ·intro hf;refine zAl Tryz.func150 rfl zFB (rs:=[.cell 6 3 true]) (by kernel_rfl) ?_;unfold zFy wpF;simp[eS,hP,zR,hk];refine zH6 (ha.pan hf) [0] (by decide) (by simp[eS,hP]) (by simp) fun τ=>?_
  simp
theorem zVO {vs:List Val}{s1:XS}(hk:e.k=9)(hl:vs.length=e.kids.length)(ha:AlE p F e V s (vs,s1)):VaE p F e V s (.mk 3 e.n vs,s1):=by
 have hP:=eP p;constructor
 ·intro hf;refine qS Tryz.func150 rfl zFB (rs:=[.cell 6 3 true]) (by kernel_rfl) ?_;unfold zFy;simp[eS,hP,zR,hk];refine⟨_,_,zP (l:=[(0,.ptr 0 0),(2,scE V),(4,.rptr [int e.id.a,int e.id.b,int e.id.c,int e.k,int e.n,int e.ref.a,int e.ref.b,int e.ref.c,int e.typ.k,int e.typ.id.a,int e.typ.id.b,int e.typ.id.c,.sl e.typ.kids.length (jV e.typ.kids),.sl e.kids.length (jR e.kids),.sl e.names.length (zA7 e.names)]),(6,.ptr 1 0)]) (σ':=eS p F s++[.box [int 0,int 0,.nil]]) [0,2] 1 (by decide) (by simp) (by simp[eS,hP]) (by simp[eS,hP,zR,hk]),?_⟩;simp[eS,hP,zR,hk];refine zCd (ha.ret hf) [0] (by decide) (by simp[eS,hP]) (by simp) ?_;simp[eS,hP,zC];exact zI [0] 0 (by decide) (by simp) (by simp) (by simp[zC,jQ,qP,zV,hl])
 ·intro hf;refine zAl Tryz.func150 rfl zFB (rs:=[.cell 6 3 true]) (by kernel_rfl) ?_;unfold zFy wpF;simp[eS,hP,zR,hk];refine⟨_,_,zP (l:=[(0,.ptr 0 0),(2,scE V),(4,.rptr [int e.id.a,int e.id.b,int e.id.c,int e.k,int e.n,int e.ref.a,int e.ref.b,int e.ref.c,int e.typ.k,int e.typ.id.a,int e.typ.id.b,int e.typ.id.c,.sl e.typ.kids.length (jV e.typ.kids),.sl e.kids.length (jR e.kids),.sl e.names.length (zA7 e.names)]),(6,.ptr 1 0)]) (σ':=eS p F s++[.box [int 0,int 0,.nil]]) [0,2] 1 (by decide) (by simp) (by simp[eS,hP]) (by simp[eS,hP,zR,hk]),?_⟩;simp[eS,hP,zR,hk];refine zDe (ha.pan hf) [0] (by decide) (by simp[eS,hP]) (by simp) fun τ=>?_
  simp
theorem qCb {ts:List Typ}{t:Typ}{vs:List Val}{s1:XS}(hk:e.k=4)(ho:s1.fail=0→OpT e.n ts t∧TyL p ts vs∧∀v∈vs,qD v≤256)(hl:vs.length=e.kids.length)(ha:AlE p F e V s (vs,s1)):VaE p F e V s (opV e.n vs,s1):=by
 have hP:=eP p;constructor
 ·intro hf;obtain⟨ho,hv,hs⟩:=ho hf;have hop:=qBW ho hv hs;generalize opV e.n vs=r at *
  refine qS Tryz.func150 rfl zFB (rs:=[.cell 6 3 true]) (by kernel_rfl) ?_;unfold zFy;simp[eS,hP,zR,hk];refine⟨_,_,zP (l:=[(0,.ptr 0 0),(2,scE V),(4,.rptr [int e.id.a,int e.id.b,int e.id.c,int e.k,int e.n,int e.ref.a,int e.ref.b,int e.ref.c,int e.typ.k,int e.typ.id.a,int e.typ.id.b,int e.typ.id.c,.sl e.typ.kids.length (jV e.typ.kids),.sl e.kids.length (jR e.kids),.sl e.names.length (zA7 e.names)]),(6,.ptr 1 0)]) (σ':=eS p F s++[.box [int 0,int 0,.nil]]) [0,2] 1 (by decide) (by simp) (by simp[eS,hP]) (by simp[eS,hP,zR,hk]),?_⟩;simp[eS,hP,zR,hk];refine zCd (ha.ret hf) [0] (by decide) (by simp[eS,hP]) (by simp) ?_;simp[eS,hP];refine qR hop (by simp[hl]) (by simp[zC]) ?_;simp[eS,hP,zC];exact zI [0] 0 (by decide) (by simp) (by simp) (by simp[zC,jQ,qP,zV])
 ·intro hf;refine zAl Tryz.func150 rfl zFB (rs:=[.cell 6 3 true]) (by kernel_rfl) ?_;unfold zFy wpF;simp[eS,hP,zR,hk];refine⟨_,_,zP (l:=[(0,.ptr 0 0),(2,scE V),(4,.rptr [int e.id.a,int e.id.b,int e.id.c,int e.k,int e.n,int e.ref.a,int e.ref.b,int e.ref.c,int e.typ.k,int e.typ.id.a,int e.typ.id.b,int e.typ.id.c,.sl e.typ.kids.length (jV e.typ.kids),.sl e.kids.length (jR e.kids),.sl e.names.length (zA7 e.names)]),(6,.ptr 1 0)]) (σ':=eS p F s++[.box [int 0,int 0,.nil]]) [0,2] 1 (by decide) (by simp) (by simp[eS,hP]) (by simp[eS,hP,zR,hk]),?_⟩;simp[eS,hP,zR,hk];refine zDe (ha.pan hf) [0] (by decide) (by simp[eS,hP]) (by simp) fun τ=>?_
  simp
theorem zVN {d:Dfn}{vs:List Val}{s1:XS}{r:Val×XS}(hk:e.k=3)(hd:qW p.defs e.ref=some d)(hl:vs.length=e.kids.length)(ha:AlE p F e V s (vs,s1))
 (hb:s1.fail=0→RP 72 [.ptr 0 0,.agg (zH d),.sl vs.length (zJ vs)] p F s1 (.agg (zC r.1)) r.2)(hx:s1.fail≠0→r.2=s1):VaE p F e V s r:=by
 have hP:=eP p;by_cases h1:s1.fail=0
 ·have hb:=hb h1;have ha:=ha.ret h1;rw[hl]at hb;constructor
  ·intro hf;refine qS Tryz.func150 rfl zFB (rs:=[.cell 6 3 true]) (by kernel_rfl) ?_;unfold zFy;simp[eS,hP,zR,hk];refine zAo (zD1 p e.ref) (by simp[zM,zF]) (by simp[zCa]) ?_;simp[zCa,hd,zH];refine⟨_,_,zP (l:=[(0,.ptr 0 0),(2,scE V),(4,.rptr [int e.id.a,int e.id.b,int e.id.c,int e.k,int e.n,int e.ref.a,int e.ref.b,int e.ref.c,int e.typ.k,int e.typ.id.a,int e.typ.id.b,int e.typ.id.c,.sl e.typ.kids.length (jV e.typ.kids),.sl e.kids.length (jR e.kids),.sl e.names.length (zA7 e.names)]),(6,.ptr 1 0),(7,.rptr (zH d))]) (σ':=eS p F s++[.box [int 0,int 0,.nil]]) [0,2] 1 (by decide) (by simp) (by simp[eS,hP]) (by simp[eS,hP,zR,zH,hk]),?_⟩;simp[eS,hP,zR,zH,hk];refine zCd ha [0] (by decide) (by simp[eS,hP]) (by simp) ?_;simp[eS,hP];refine zCd (hb.ret hf) [0] (by decide) (by simp[eS,hP]) (by simp[zH]) ?_;simp[eS,hP,zC];exact zI [0] 0 (by decide) (by simp) (by simp) (by simp[zC,jQ,qP,zV])
  ·intro hf;refine zAl Tryz.func150 rfl zFB (rs:=[.cell 6 3 true]) (by kernel_rfl) ?_;unfold zFy wpF;simp[eS,hP,zR,hk];refine zAo (zD1 p e.ref) (by simp[zM,zF]) (by simp[zCa]) ?_;simp[zCa,hd,zH];refine⟨_,_,zP (l:=[(0,.ptr 0 0),(2,scE V),(4,.rptr [int e.id.a,int e.id.b,int e.id.c,int e.k,int e.n,int e.ref.a,int e.ref.b,int e.ref.c,int e.typ.k,int e.typ.id.a,int e.typ.id.b,int e.typ.id.c,.sl e.typ.kids.length (jV e.typ.kids),.sl e.kids.length (jR e.kids),.sl e.names.length (zA7 e.names)]),(6,.ptr 1 0),(7,.rptr (zH d))]) (σ':=eS p F s++[.box [int 0,int 0,.nil]]) [0,2] 1 (by decide) (by simp) (by simp[eS,hP]) (by simp[eS,hP,zR,zH,hk]),?_⟩;simp[eS,hP,zR,zH,hk];refine zCd ha [0] (by decide) (by simp[eS,hP]) (by simp) ?_;simp[eS,hP];refine zDe (hb.pan hf) [0] (by decide) (by simp[eS,hP]) (by simp[zH]) fun τ=>?_
   simp
 ·unfold VaE;rw[hx h1];refine⟨fun hf=>(h1 hf).elim,fun hf=>?_⟩;refine zAl Tryz.func150 rfl zFB (rs:=[.cell 6 3 true]) (by kernel_rfl) ?_;unfold zFy wpF;simp[eS,hP,zR,hk];refine zAo (zD1 p e.ref) (by simp[zM,zF]) (by simp[zCa]) ?_;simp[zCa,hd,zH];refine⟨_,_,zP (l:=[(0,.ptr 0 0),(2,scE V),(4,.rptr [int e.id.a,int e.id.b,int e.id.c,int e.k,int e.n,int e.ref.a,int e.ref.b,int e.ref.c,int e.typ.k,int e.typ.id.a,int e.typ.id.b,int e.typ.id.c,.sl e.typ.kids.length (jV e.typ.kids),.sl e.kids.length (jR e.kids),.sl e.names.length (zA7 e.names)]),(6,.ptr 1 0),(7,.rptr (zH d))]) (σ':=eS p F s++[.box [int 0,int 0,.nil]]) [0,2] 1 (by decide) (by simp) (by simp[eS,hP]) (by simp[eS,hP,zR,zH,hk]),?_⟩;simp[eS,hP,zR,zH,hk];refine zDe (ha.pan hf) [0] (by decide) (by simp[eS,hP]) (by simp) fun τ=>?_
  simp
end
section
variable {p:Prg}{F:Int}{c:Nat}{m:Int}{ev:Evl}{e:Exp}{V:List EVar}{s:XS}
@[simp] theorem qOt:zA Tryz.prog 186=true:=by kernel_rfl
section
variable {A:List Val×XS}(hA:Ret Tryz.prog 199 [.ptr 0 0,.sl e.kids.length (jR e.kids),.sl V.length (zDd V)] (uS p F s) (.sl A.1.length (zJ A.1)) (uS p F A.2))
include hA
end
end
section
variable {p:Prg}{c:Nat}{m:Int}{ev:Evl}{e:Exp}{V:List EVar}{s:XS}
end
def zSZ (d:Dfn)(L:List Id):List Id:=if d.id∈L then namS d.slots L else L
theorem RS.namS {p:Prg}{hs:List Hd}(hf:Fit p hs){ss:List Slt}(h:∀s∈ss,TyOk hs 4 s.typ){L:List Id}(hL:RS p L):RS p (namS ss L) :=
 RS.fold (fun(s:Slt) L=>zP6 s.typ L) ss L (fun s hs' L hL=>hL.nam hf (h s hs')) hL
theorem RS.turn {p:Prg}{hs:List Hd}(hf:Fit p hs){d:Dfn}(hd:d∈p.defs){L:List Id}(hL:RS p L):RS p (zSZ d L):=by
 unfold zSZ;split
 ·exact hL.namS hf (hf.slots d hd).2.2.2.2
 ·exact hL
theorem RS.rnd {p:Prg}{hs:List Hd}(hf:Fit p hs){ds:List Dfn}(hd:∀d∈ds,d∈p.defs){L:List Id}(hL:RS p L):RS p (ds.foldl (fun L d=>zSZ d L) L) :=
 RS.fold zSZ ds L (fun d hd' L hL=>hL.turn hf (hd d hd')) hL
structure RelX (k:Int)(s s':XS):Prop where
 fuel:s'.fuel=s.fuel-k
 fail:s'.fail=s.fail
 ds:s'.ds=s.ds
 ns:s'.ns=s.ns
def zEd (s' s:XS):Prop:=(∀x∈s'.ds,x∈s.ds)∧∀x∈s'.ns,x∈s.ns
theorem zEd.rfl' (s:XS):zEd s s:=⟨fun _ h=>h,fun _ h=>h⟩
theorem zEd.trans {a b c:XS}(h:zEd a b)(k:zEd b c):zEd a c:=⟨fun x hx=>k.1 x (h.1 x hx),fun x hx=>k.2 x (h.2 x hx)⟩
theorem RelX.sub {k:Int}{s s':XS}(h:RelX k s s'):zEd s' s:=⟨fun x hx=>by rw[←h.ds]; exact hx,fun x hx=>by rw[←h.ns]; exact hx⟩
theorem zXe (s:XS):InvX (zEd s) :=
 ⟨fun e t h _=>⟨h.1,fun x hx=>jBh _ (h.2 x hx)⟩,fun d t h=>⟨fun x hx=>jBh _ (h.1 x hx),h.2⟩,fun x t h=>h⟩
def Grow (ev:Evl):Prop:=∀e V s,zEd s (ev e V s).2
def qGr {α : Type}(k:Int)(r r' : α×XS):Prop:=(RelX k r.2 r'.2∧r'.1=r.1)∨(r'.2.fail≠0∧zEd r'.2 r.2)
theorem qGr.grow {α : Type}{k:Int}{r r' : α×XS}{t : α}{s:XS}(h:r'.2.fail≠0∧zEd r'.2 r.2)(hs:zEd r.2 s):qGr k (t,s) r':=.inr ⟨h.1,h.2.trans hs⟩
section
variable {p:Prg}{k:Int}{ev ev':Evl}
theorem Grow.all (hg:Grow ev)(V:List EVar)(l:List Exp)(s:XS):zEd s (qZ ev V l s).2:=zF7 (I:=zEd s) (fun e V t ht=>ht.trans (hg e V t)) V l s (zEd.rfl' s)
theorem Grow.fold (hg:Grow ev)(V:List EVar)(i:Id)(b:Exp)(l:List Val)(r:Val×XS):zEd r.2 (yF ev V i b l r).2:=zGy (I:=zEd r.2) (fun e V t ht=>ht.trans (hg e V t)) V i b l r (zEd.rfl' r.2)
theorem Grow.body (hg:Grow ev)(d:Dfn)(vs:List Val)(s:XS):zEd s (zB5 ev d vs s).2:=zGr (I:=zEd s) (zXe s) (fun e V t ht=>ht.trans (hg e V t)) d vs s (zEd.rfl' s)
end
theorem zSk (C:Int):InvX (fun s=>s.ns.length+s.fuel=C) :=
 ⟨fun e s h hf=>by unfold zEc; simp only[jA7,jC0]; have:(s.ns.length:Int)+s.fuel=C:=h; omega,fun d s h=>h,fun x s h=>h⟩
theorem zWM (p:Prg)(d:Dfn)(vs:List Val)(fuel:Int):((zE4 p d vs fuel).2.ns.length:Int)+(zE4 p d vs fuel).2.fuel=fuel :=
 zGr (zSk fuel) (zE1 (zSk fuel) 1 _) d vs _ (by simp)
theorem zYP (p:Prg)(d:Dfn)(vs:List Val)(fuel:Int)(h:0≤fuel):0≤(zE4 p d vs fuel).2.fuel :=
 (zGr (zK9 fuel) (zE1 (zK9 fuel) 1 _) d vs _ ⟨h,jAd _⟩:Fu fuel (zE4 p d vs fuel).2).1
theorem RP.congr {f:FuncId}{args:List A}{p:Prg}{F:Int}{s s':XS}{r r':A}(h:RP f args p F s r s')(hr:s'.fail=0→r=r'):RP f args p F s r' s' :=
 ⟨fun hf=>by rw[←hr hf]; exact h.ret hf,h.pan⟩
section
variable {p:Prg}{F m:Int}{ev:Evl}{B:List Bnd}{e:Exp}{t:Typ}{V:List EVar}{s:XS}
def zUG:K:=G [kO 4 1,kZ 6 [ki,ki,kl]] (Z (Z (K.dops [(0,0,M 8 0),(1,0,kU 9 8),(2,0,D 10 9 3),(3,0,L 11 10 1),(4,0,M 12 0),(5,0,kU 13 12),(6,0,D 14 13 2),(7,0,L 15 14 1),(8,0,kB 16 11 15 .geq)]) (Y 16 (K.ops [⟨none,.mki (some 17) 51 (kc 18)⟩,⟨none,.pan none (kt 17)⟩]) ks)) (G [M 18 0,kU 19 18,D 20 19 3,L 21 20 1,kBi 22 21 1 .add,kU 23 18,D 24 23 3,S 24 22 1] (G [M 25 0,J 26 4 15,M 27 2,kC 28 150 [(kt 25),(kt 26),(kt 27)],kZ 7 [ki,ki,kl],S 7 28 3] (Z (G [J 29 7 3,kC 30 151 [(kt 29)],kBi 31 30 256 .gtr,M 32 31,T 32 false (J 33 7 3),T 32 false (kC 34 152 [(kt 33)]),T 32 false (kBi 35 34 24 .gtr),kPt 36 32 35] (Y 36 (K.ops [⟨none,.mki (some 37) 51 (kc 4)⟩,⟨none,.pan none (kt 37)⟩]) ks)) (G [J 38 7 3,S 6 38 3] kr)))))
theorem zX7:zO Tryz.prog Tryz.f110.ntmps (Tryz.f110.body.getD .skip)=some zUG.erase:=by kernel_rfl
@[simp] theorem qN3:zA Tryz.prog 110=true:=by kernel_rfl
theorem zMg (hu:s.fuel≤0):zL7 p F e V s (vz,{s with fail:=zFK}):=by
 have hP:=eP p;refine⟨fun hf=>absurd (show zFK=0 from hf) (by decide),fun _=>?_⟩;have hc:F≤F-s.fuel:=by omega
 refine zE3 Tryz.func110 rfl zX7 (rs:=[.cell 6 3 true]) (by kernel_rfl) ?_;unfold zUG wpF;simp[eS,hP,zR,hc]
theorem zVE {r:Val×XS}(hF:F≤1000000)(hs:s.fail=0)(hu:¬s.fuel≤0)(hB:Fu F s)(hv:VaE p F e V (zEc e s) r):zL7 p F e V s (zOL 1 r):=by
 have hP:=eP p;obtain⟨b1,b2⟩:=hB;have hc:¬F≤F-s.fuel:=by omega
 have hw:IntKind.i64.wrap (F-s.fuel+1)=F-(s.fuel-1):=by rw[IntWalk.i64_in _ (by omega)]; omega
 have he:zOL 1 r=(r.1,zDi r):=by simp[zOL,zf]
 have ht:(zEc e s).fuel=s.fuel-1:=rfl;rw[he];by_cases h0:r.2.fail=0
 ·have hv:=hv.ret h0;by_cases hbig:zJD r.1
  ·have hl:zDi r={r.2 with fail:=zNx}:=by unfold zDi; rw[if_pos ⟨h0,hbig⟩]
   rw[hl];refine⟨fun hf=>absurd (show zNx=0 from hf) (by decide),fun _=>?_⟩;refine zE3 Tryz.func110 rfl zX7 (rs:=[.cell 6 3 true]) (by kernel_rfl) ?_;unfold zUG wpF;simp[eS,hP,zR,hc,hw];refine jN hv [0] (by decide) (by simp[eS,hP,ht]) (by simp[zR]) ?_;simp[eS,hP,zC];refine qK (zNZ r.1) (by simp[zC]) (by simp) ?_;by_cases h1:256<zGm r.1
   ·simp[h1]
   ·have h2:24<zD2 r.1:=hbig.resolve_left h1;simp[h1];refine qK (zI8 r.1) (by simp[zC]) (by simp) ?_;simp[h2]
  ·have hl:zDi r=r.2:=by unfold zDi; rw[if_neg fun h=>hbig h.2]
   have h1:¬256<zGm r.1:=fun h=>hbig (.inl h)
   have h2:¬24<zD2 r.1:=fun h=>hbig (.inr h)
   rw[hl];refine⟨fun _=>?_,fun hf=>(hf h0).elim⟩;refine zK Tryz.func110 rfl zX7 (rs:=[.cell 6 3 true]) (by kernel_rfl) ?_;unfold zUG;simp[eS,hP,zR,hc,hw];refine jN hv [0] (by decide) (by simp[eS,hP,ht]) (by simp[zR]) ?_;simp[eS,hP,zC];refine qK (zNZ r.1) (by simp[zC]) (by simp) ?_;simp[h1];refine qK (zI8 r.1) (by simp[zC]) (by simp) ?_;simp[h2];exact zI [0] 0 (by decide) (by simp) (by simp) (by simp[zC])
 ·have hl:zDi r=r.2:=by unfold zDi; rw[if_neg fun h=>h0 h.1]
  rw[hl];refine⟨fun hf=>(h0 hf).elim,fun _=>?_⟩;refine zE3 Tryz.func110 rfl zX7 (rs:=[.cell 6 3 true]) (by kernel_rfl) ?_;unfold zUG wpF;simp[eS,hP,zR,hc,hw];refine zH6 (hv.pan h0) [0] (by decide) (by simp[eS,hP,ht]) (by simp[zR]) fun τ=>?_
  simp
theorem zKw (h:IhE p F m ev){a:Exp}{ks:List Exp}{u:Typ}(hk:e.k=5∨e.k=6∨e.k=8∨e.k=10∨e.k=12)(hks:e.kids=a::ks)(ha:WE p B a u)(hV:EnvT p B V)(hN:NdV V)(hs:s.fail=0)(hB:Fu m s)
 (hb:∀v s1,s1.fail=0→Fu m s1→TyV p u v∧qD v≤256→BrE p F e V v s1 (zAA ev e V v s1)):VaE p F e V s (zAn ev e V s):=by
 have hh:e.kids.headD .zero=a:=by rw[hks]; rfl
 refine qCa hk hks (h.ok a V s hs (.of ha hV hN) hB) (fun h1=>?_) fun h1=>?_
 ·rw[zTh (by rw[hh]; exact h1),hh];exact hb _ _ h1 (h.fu a V s hB) (h.snd a B V s u ha hV h1)
 ·unfold zAn;rw[hh,if_pos h1]
theorem zT1 (hp:zUB p)(hsl:qBg p)(h:IhE p F m ev)(he:WE p B e t)(hV:EnvT p B V)(hN:NdV V)(hs:s.fail=0)(hB:Fu m s):VaE p F e V s (qV p 1 ev e V s):=by
 cases he with
 | int _ i n r u ns h1 h2=>exact zYb hs rfl
 | bool _ i n r u ns h1=>exact zVM hs rfl h1
 | var _ i n r u ns _ hl=>exact zYd hs rfl
 | call _ i n r u ks ns hn d hd hk hl hw =>
  have e1:qV p 1 ev (.mk i 3 n r u ks ns) V s=zB5 ev d (qZ ev V ks s).1 (qZ ev V ks s).2:=by simp[qV,dfn,hd]
  rw[e1];have hdm:=(zAu hd).1;have hal:=zHD h V ks hn hs (fun k hk s=>by obtain⟨j,hj,rfl⟩:=jB0 hk; exact .of (hw j hj) hV hN) hB;have hll:=zCq ev V ks s;refine zVN (e:=.mk i 3 n r u ks ns) (vs:=(qZ ev V ks s).1) (s1:=(qZ ev V ks s).2) rfl hd hll hal (fun hf=>?_) fun hf=>?_
  ·obtain⟨ht,hz⟩:=zEE h.stop h.snd hV ks _ s hl hw hf;have hlen:=ht.len;rw[jB4]at hlen;exact zOI h d _ hlen (hsl d hdm).1 hf (fun _=>⟨_,_,hp r d hd (by simp[zGV,hk]),EnvT.args ht hz,zSp (hsl d hdm).2 _ hlen⟩) (zF7 h.fu V ks s hB)
  ·unfold zB5;rw[if_pos hf]
 | op _ i n r u ks ns hn ts _ ho hl hw =>
  have e1:qV p 1 ev (.mk i 4 n r u ks ns) V s=(zf true (qZ ev V ks s).2 (opV n (qZ ev V ks s).1),(qZ ev V ks s).2):=by simp[qV]
  rw[e1];have hal:=zHD h V ks hn hs (fun k hk s=>by obtain⟨j,hj,rfl⟩:=jB0 hk; exact .of (hw j hj) hV hN) hB;refine RP.congr (qCb (e:=.mk i 4 n r u ks ns) (ts:=ts) (t:=t) (vs:=(qZ ev V ks s).1) rfl (fun hf=>?_) (zCq ev V ks s) hal) fun hf=>by rw[zFx hf]; rfl
  obtain⟨ht,hz⟩:=zEE h.stop h.snd hV ks _ s hl hw hf;exact⟨ho,ht,hz⟩
 | record _ i n r u ks ns hn d hd hk hl hw =>
  have e1:qV p 1 ev (.mk i 7 n r u ks ns) V s=(zf true (qZ ev V ks s).2 (.mk 2 0 (qZ ev V ks s).1),(qZ ev V ks s).2):=by simp[qV]
  rw[e1];have hal:=zHD h V ks hn hs (fun k hk s=>by obtain⟨j,hj,rfl⟩:=jB0 hk; exact .of (hw j hj) hV hN) hB;exact RP.congr (zYc (e:=.mk i 7 n r u ks ns) rfl (zCq ev V ks s) hal) fun hf=>by rw[zFx hf]
 | case _ i r u a ns d j hd hk hj ha =>
  have e1:qV p 1 ev (.mk i 9 j r u [a] ns) V s=(zf true (qZ ev V [a] s).2 (.mk 3 j (qZ ev V [a] s).1),(qZ ev V [a] s).2):=by simp[qV]
  rw[e1];have hal:=zHD h V [a] (by simp) hs (fun k hk s=>by rw[jAp.1 hk]; exact .of ha hV hN) hB;exact RP.congr (zVO (e:=.mk i 9 j r u [a] ns) rfl (zCq ev V [a] s) hal) fun hf=>by rw[zFx hf]; rfl
 | list _ i n r u ks ns t hn hw =>
  have e1:qV p 1 ev (.mk i 11 n r u ks ns) V s=(zf true (qZ ev V ks s).2 (.mk 4 0 (qZ ev V ks s).1),(qZ ev V ks s).2):=by simp[qV]
  rw[e1];have hal:=zHD h V ks hn hs (fun k hk s=>by obtain⟨j,hj,rfl⟩:=jB0 hk; exact .of (hw j hj) hV hN) hB;exact RP.congr (zVP (e:=.mk i 11 n r u ks ns) rfl (zCq ev V ks s) hal) fun hf=>by rw[zFx hf]
 | ite _ i n r u a b c ns _ ha hb hc =>
  have e1:qV p 1 ev (.mk i 5 n r u [a,b,c] ns) V s=zAn ev (.mk i 5 n r u [a,b,c] ns) V s:=by simp[qV]
  rw[e1];refine zKw h (.inl rfl) rfl ha hV hN hs hB fun v s1 h1 hB1 hty=>?_
  obtain⟨x,rfl,hx⟩:=hty.1.bool_inv;exact zXM hx rfl rfl (h.ok b V s1 h1 (.of hb hV hN) hB1) (h.ok c V s1 h1 (.of hc hV hN) hB1)
 | lets _ i n r u a b ns v _ hfr ha hb =>
  have e1:qV p 1 ev (.mk i 6 n r u [a,b] ns) V s=zAn ev (.mk i 6 n r u [a,b] ns) V s:=by simp[qV]
  rw[e1];refine zKw h (.inr (.inl rfl)) rfl ha hV hN hs hB fun v s1 h1 hB1 hty=>?_
  exact zXN rfl rfl (h.ok b _ s1 h1 (.of hb (hV.push hty) (hN.push (.of (hV.ids hfr) 0))) hB1)
 | field _ i r u a ns d j hd hk hj ha =>
  have e1:qV p 1 ev (.mk i 8 j r u [a] ns) V s=zAn ev (.mk i 8 j r u [a] ns) V s:=by simp[qV]
  rw[e1];refine zKw h (.inr (.inr (.inl rfl))) rfl ha hV hN hs hB fun v s1 h1 hB1 hty=>?_
  obtain⟨_,vs,hl,rfl,_⟩:=(hty.1.def_inv hd).resolve_right (fun h=>by omega);exact zTs rfl rfl h1 (by omega) rfl
 | mtch _ i n r u a ks ns d _ hfr hd hk hl ha hw =>
  have e1:qV p 1 ev (.mk i 10 n r u (a::ks) ns) V s=zAn ev (.mk i 10 n r u (a::ks) ns) V s:=by simp[qV]
  rw[e1];refine zKw h (.inr (.inr (.inr (.inl rfl)))) rfl ha hV hN hs hB fun v s1 h1 hB1 hty=>?_
  obtain⟨_,q,x,hm,rfl,hxt⟩:=(hty.1.def_inv hd).resolve_left (fun h=>by omega);have hq:q<ks.length:=by omega
  exact zTt rfl rfl hq (by have:=(hsl d (zAu hd).1).1; omega) (h.ok ks[q] _ s1 h1 (.of (hw q hq) (hV.push ⟨hxt,zEz hty.2 (by simp[zV])⟩) (hN.push (.of (hV.ids hfr) q))) hB1)
 | fold _ i n r u l z b ns v _ hfr hl' hs' hb =>
  have e1:qV p 1 ev (.mk i 12 n r u [l,z,b] ns) V s=zAn ev (.mk i 12 n r u [l,z,b] ns) V s:=by simp[qV]
  rw[e1];refine zKw h (.inr (.inr (.inr (.inr rfl)))) rfl hl' hV hN hs hB fun v s1 h1 hB1 hty=>?_
  obtain⟨vs,rfl,hvs⟩:=hty.1.list_inv;have hfv:=hV.ids hfr;have ht2:=h.snd z B V s1 _ hs' hV;refine zV3 h.stop rfl rfl (h.ok z V s1 h1 (.of hs' hV hN) hB1) fun x a s2 h2 ⟨j,hj,hx⟩=>?_
  have hxm:=jC1 hx;have hty2:=zK8 h.stop h.snd hV hb (vs.take j) (ev z V s1) (fun x hx=>⟨hvs x (jCc hx),zEz hty.2 (jCc hx)⟩) ht2;have hfu:=zGy h.fu V i b (vs.take j) (ev z V s1) (h.fu z V s1 hB1);rw[show (Exp.mk i 12 n r u [l,z,b] ns).id=i from rfl]at hj;rw[hj]at hty2 hfu;exact h.ok b _ s2 h2 (.of hb ((hV.push ⟨hvs x hxm,zEz hty.2 hxm⟩).push (hty2 h2)) ((hN.push (.of hfv 0)).push (.push hfv (by decide) _))) hfu
theorem zSs (hp:zUB p)(hsl:qBg p)(hF:F≤1000000):∀n:Nat,(n:Int)≤F→IhE p F n (zAq p 1 n)
 | 0,_=>⟨zD7 p 1 0,zHY hp 1 0,zE1 (zK9 _) 1 0,fun e V s hs hA hB=>by rw[zAq,if_neg (by simp[hs])];exact zMg hB.2⟩
 | n+1,hn=>⟨zD7 p 1 (n+1),zHY hp 1 (n+1),zE1 (zK9 _) 1 (n+1),fun e V s hs hA hB=>by
  rw[zAq,if_neg (by simp[hs])];split
  ·rename_i hu; exact zMg hu
  ·rename_i hu;obtain⟨B,t,he,hV,hN⟩:=hA hs;obtain⟨b1,b2⟩:=hB;exact zVE hF hs hu ⟨b1,by omega⟩ (zT1 hp hsl (zSs hp hsl hF n (by omega)) he hV hN (by exact hs) ⟨by show 0≤s.fuel-1; omega,by show s.fuel-1≤_; omega⟩)⟩
end
section
variable {p:Prg}{F:Int}{c:Nat}{m:Int}{ev:Evl}{e:Exp}{V:List EVar}{s:XS}
@[simp] theorem qOs:zA Tryz.prog 171=true:=by kernel_rfl
end
end Go.Proofs.YtdnelmeboihpkaaGreatDoor
namespace Go.Proofs.YtdnelmeboihpkaaGreatDoor
open Go Go.Abs
theorem zTw (pv ps pe:Value)(w:World) :
 CallsDIn Fence.wide 0 Tryz.prog 107 #[pv,ps,pe] .returning w fun e u' w'=>e=.returned (.tuple #[])∧u'=.returning∧w'=w:=by
 refine callsDIn_of_wpSIn Tryz.func107 rfl trivial fun c₀ cs hu=>?_
 apply wpSIn_seq;apply wpSIn_region;simp[wpOpsSIn,go_sem,recoverD,hu,Tryz.ntmps107,Exit.thenS];apply wpSIn_seq;apply wpSIn_region;simp[wpOpsSIn,go_sem,Exit.thenS];refine wpSIn_cond (t:=false) (by simp[Act.eval,Array.replicate]) ?_;simp only[jAe,if_false];refine wpSIn_of_wpIn rfl (wpIn_skip ?_);cases c₀;simp_all [bodyPostS,results,Tryz.results107]
theorem zYQ (k:Int)(w:World):(Instr.typeAssert (zON k) 20 51 true).run Tryz.prog w=.ok (.tuple #[.int .i64 k,.bool true]) w:=by
 have hu:Tryz.prog.underlying 51=some (.int .i64):=by kernel_rfl
 simp[Instr.typeAssert,run_underlying hu]
def qFN:List KG:=[⟨none,.build (some 17) [(.int .i64 0),(.int .i64 0),(.slice none 0 0)] []⟩,⟨none,.mov (some 18) (.tmp 4)⟩,⟨none,.st none (.tmp 0) (.tmp 17) 3⟩,⟨none,.st none (.tmp 1) (.const (.int .i64 0)) 1⟩,⟨none,.st none (.tmp 2) (.tmp 18) 1⟩]
theorem zOK {H:Mem}{L:List LI} {σ : St}{w:World}{vs:List Value}{q0 q1 q2:Nat}{k:Int}{older:List PanicEntry}(hs:RelSt H L σ w)(hv:zN H L [.ptr q0 0,.ptr q1 0,.ptr q2 0] vs)
 {x0 y0 z0 x1 x2:A}(b0 : σ[q0]?=some (.box [x0,y0,z0]))(b1 : σ[q1]?=some (.box [x1]))(b2 : σ[q2]?=some (.box [x2]))(n1:q0≠q1)(n2:q0≠q2)(n3:q1≠q2) :
 CallsDIn Fence.wide 0 Tryz.prog 107 vs.toArray (.panicking ({v:=zON k,recovered:=false}::older)) w fun e u' w'=>e=.returned (.tuple #[])∧u'=.panicking ({v:=zON k,recovered:=true}::older) ∧
  ∃H' L',Nxt H L w H' L' (((σ.set q0 (.box [int 0,int 0,.nil])).set q1 (.box [int 0])).set q2 (.box [int k])) w':=by
 obtain⟨pv,vs',rfl,h0,hv⟩:=zT hv;obtain⟨ps,vs',rfl,h1,hv⟩:=zT hv;obtain⟨pe,vs',rfl,h2,hv⟩:=zT hv;rw[jF hv];refine callsDIn_of_wpSIn Tryz.func107 rfl trivial fun c₀ cs hu=>?_
 apply wpSIn_seq;apply wpSIn_region;simp[wpOpsSIn,go_sem,recoverD,hu,Tryz.ntmps107,Exit.thenS];apply wpSIn_seq;apply wpSIn_region;simp[wpOpsSIn,go_sem,Exit.thenS];refine wpSIn_cond (t:=true) (by simp[Act.eval,Array.replicate]) ?_;simp only[if_true];apply wpSIn_seq;apply wpSIn_region;simp[wpOpsSIn,go_sem,Exit.thenS,zYQ];apply wpSIn_seq;apply wpSIn_seq;apply wpSIn_region;simp[wpOpsSIn,go_sem,Exit.thenS];refine wpSIn_cond (t:=false) (by simp[Act.eval,Array.replicate]) ?_;simp only[jAe,if_false];refine wpSIn_of_wpIn rfl (wpIn_skip ?_);simp only[Exit.thenS];refine wpSIn_of_wpIn rfl ?_;refine zLm (n0:=L.length) (hint:=zFf) (l:=qFN) (by kernel_rfl) (Q:=fun x env τ=>x=.norm∧τ = ((σ.set q0 (.box [int 0,int 0,.nil])).set q1 (.box [int 0])).set q2 (.box [int k])) (N:=19) (env:=qC [(0,.ptr q0 0),(1,.ptr q1 0),(2,.ptr q2 0),(4,int k)]) ?_ hs ?_ fun e a' w' hp=>?_
 ·refine⟨by simp,fun t=>?_⟩;rcases zDw [(0,.ptr q0 0),(1,.ptr q1 0),(2,.ptr q2 0),(4,int k)] t with h | h
  ·rw[h]; simp[Rel]
  ·generalize qC [(0,.ptr q0 0),(1,.ptr q1 0),(2,.ptr q2 0),(4,int k)] t=a at h;simp only[jA6,jB8,jCx,or_false]at h;rcases h with ⟨rfl,rfl⟩ | ⟨rfl,rfl⟩ | ⟨rfl,rfl⟩ | ⟨rfl,rfl⟩
   ·simpa using h0
   ·simpa using h1
   ·simpa using h2
   ·simp[Rel,Array.getElem?_append]
 ·unfold qFN;simp[b0,b1,b2,n1,n2,n3,jDa]
 ·obtain⟨x,env',τ,H',L',rfl,g2,g3,g4,rfl,rfl⟩:=hp;refine⟨g2,_,rfl,.tuple #[],?_,rfl,rfl,H'.1,H'.2,L',g4⟩;simp[results,Tryz.results107]
end Go.Proofs.YtdnelmeboihpkaaGreatDoor
namespace Go.Proofs.YtdnelmeboihpkaaGreatDoor
open Go.Abs
def Fl (s:XS):Prop:=s.fail=0∨s.fail=4∨s.fail=18
section
variable {p:Prg}{ev:Evl}
theorem zSf (h:∀e V s,Fl s→Fl (ev e V s).2)(V:List EVar):∀(l:List Exp) (s:XS),Fl s→Fl (qZ ev V l s).2
 | [],s,hs=>hs
 | e::l,s,hs=>by simp only[qZ]; exact zSf h V l _ (h e V s hs)
theorem zOX (h:∀e V s,Fl s→Fl (ev e V s).2)(V:List EVar)(i:Id)(b:Exp):∀(l:List Val) (r:Val×XS),Fl r.2→Fl (yF ev V i b l r).2
 | [],r,hs=>hs
 | e::l,r,hs=>by simp only[yF]; exact zOX h V i b l _ (h _ _ _ hs)
theorem zO1 (h:∀e V s,Fl s→Fl (ev e V s).2)(d:Dfn)(vs:List Val)(s:XS)(hs:Fl s):Fl (zB5 ev d vs s).2:=by
 unfold zB5;split
 ·exact hs
 ·exact h _ _ _ hs
theorem zQ2 (h:∀e V s,Fl s→Fl (ev e V s).2)(e:Exp)(V:List EVar)(s:XS)(hs:Fl s):Fl (zAn ev e V s).2:=by
 unfold zAn;have h0:=h (e.kids.headD .zero) V s hs;generalize ev (e.kids.headD .zero) V s=r at *
 repeat' split
 all_goals first
  | exact h0
  | exact h _ _ _ h0
  | exact zOX h _ _ _ _ _ (h _ _ _ h0)
theorem zU8 (h:∀e V s,Fl s→Fl (ev e V s).2)(fl:Nat)(e:Exp)(V:List EVar)(s:XS)(hs:Fl s):Fl (qV p fl ev e V s).2:=by
 unfold qV;have h0:=zSf h V e.kids s hs;generalize qZ ev V e.kids s=r at *
 repeat' split
 all_goals first
  | exact hs
  | exact h0
  | exact zQ2 h _ _ _ hs
  | exact zO1 h _ _ _ h0
theorem zY0 {r:Val×XS}(h:Fl r.2):Fl (zDi r):=by
 unfold zDi;split
 ·exact .inr (.inl rfl)
 ·exact h
theorem zPA (fl:Nat):∀(n:Nat) e V s,Fl s→Fl (zAq p fl n e V s).2
 | 0,e,V,s,hs=>by
  rw[zAq];split
  ·exact hs
  ·exact .inr (.inr rfl)
 | n+1,e,V,s,hs=>by
  rw[zAq];split
  ·exact hs
  ·split
   ·exact .inr (.inr rfl)
   ·exact zY0 (zU8 (zPA fl n) fl e V _ hs)
end
def zF3 (p:Prg)(d:Dfn)(vs:List Val)(fuel:Int):Val×XS:=zB5 (zAq p 2 fuel.toNat) d vs ⟨fuel,0,[],[]⟩
def yR (p:Prg)(id:Id)(vs:List Val)(fuel:Int):Val×Int×Int:=match qW p.defs id with
 | none=>(vz,0,6)
 | some d=>if zQ1 d.kind=false then (vz,0,6) else if vs.length≠d.slots.length then (vz,0,1)
  else if zB8 p (d.slots.map Slt.typ) vs=false then (vz,0,1) else if (zF3 p d vs fuel).2.fail≠0 then (vz,0,(zF3 p d vs fuel).2.fail) else ((zF3 p d vs fuel).1,fuel-(zF3 p d vs fuel).2.fuel,0)
def zCU (r:Val×Int×Int):A:=.tup [.agg (zC r.1),int r.2.1,int r.2.2]
@[simp] theorem qOr:zA Tryz.prog 92=true:=by kernel_rfl
end Go.Proofs.YtdnelmeboihpkaaGreatDoor
namespace Go.Proofs.YtdnelmeboihpkaaGreatDoor
open Go Go.Abs
def qIx:List KG:=[⟨none,.box (some 3) (.tmp 0)⟩,⟨none,.alloc (some 6) [(.int .i64 0),(.int .i64 0),(.slice none 0 0)]⟩,⟨none,.alloc (some 7) [(.int .i64 0)]⟩,⟨none,.alloc (some 8) [(.int .i64 0)]⟩]
def qIy:List KG:=[⟨none,.ld (some 10) (.tmp 3) 2 true⟩,⟨none,.mov (some 11) (.tmp 1)⟩,⟨none,.mm (some 12) true [(.tmp 11),(.const (.int .i64 0))]⟩,
 ⟨none,.build (some 13) [(.slice none 0 0),(.slice none 0 0),(.int .i64 0),(.int .i64 0)] [(0,2,(.tmp 10)),(2,1,(.tmp 12))]⟩,⟨none,.box (some 14) (.tmp 13)⟩,⟨none,.mov (some 9) (.tmp 14)⟩]
def zYy:List KG:=[⟨none,.mov (some 16) (.tmp 2)⟩,⟨none,.mov (some 17) (.tmp 9)⟩,⟨none,.call (some 18) (.tmp 16) [(.tmp 17)]⟩,⟨none,.st none (.tmp 6) (.tmp 18) 3⟩]
def qIz:List KG:=[⟨none,.addr (some 19) (.tmp 6) 2⟩,⟨none,.ld (some 20) (.tmp 19) 1 false⟩,⟨none,.call (some 21) (.func 108) [(.tmp 20)]⟩,⟨none,.addr (some 22) (.tmp 6) 2⟩,⟨none,.st none (.tmp 22) (.tmp 21) 1⟩]
def qI0:List (Nat×Nat×KG):=[(0,0,⟨none,.ld (some 23) (.tmp 6) 3 true⟩),(1,0,⟨none,.mov (some 24) (.tmp 9)⟩),(2,0,⟨none,.nilc (some 25) (.tmp 24)⟩),(3,2,⟨none,.addr (some 26) (.tmp 25) 3⟩),(4,2004,⟨none,.ld (some 27) (.tmp 26) 1 false⟩),
 (5,1004,⟨none,.st none (.tmp 6) (.tmp 23) 3⟩),(6,0,⟨none,.st none (.tmp 7) (.tmp 27) 1⟩),(7,0,⟨none,.st none (.tmp 8) (.const (.int .i64 0)) 1⟩)]
def hDo:Nat→Option (List (Nat×Nat)):=fun r=>match r with | 5=>some [(0,0),(1,0),(2,0),(3,2),(4,2004),(5,1004),(6,0),(7,0)] | _=>none
def dfr (pv ps pe:Value):Deferred:={target:=.fn (.func 107) #[pv,ps,pe],args:=#[]}
abbrev sDo (D:St)(p:Prg)(F:Int)(v:Val)(n e:Int)(s:XS):St:=D++[.box (zM p),.box (zC v),.box [int n],.box [int e]]++eS p F s
def zLJ (F:Int)(r:Val×XS):A:=if r.2.fail=0 then .tup [.agg (zC r.1),int (F-r.2.fuel),int 0] else .tup [.agg (zC vz),int 0,int r.2.fail]
def qBa:K:=G [kZ 4 [ki,ki,kl]] (G [M 5 0,J 6 1 31,L 7 2 1,kC 8 72 [(kt 5),(kt 6),(kt 7)],S 4 8 3] kr)
theorem qHa:zO Tryz.prog Tryz.f71.ntmps (Tryz.f71.body.getD .skip)=some qBa.erase:=by kernel_rfl
@[simp] theorem qNy:zA Tryz.prog 71=true:=by kernel_rfl
section
variable {p:Prg}{F:Int}{d:Dfn}{us:List Val}{s:XS}{r:Val×XS}
abbrev dA (d:Dfn)(us:List Val):St:=[.box (zH d),.box [.sl us.length (zJ us)]]
abbrev qOM (G:Int):List (Nat×A):=[(1,int G),(2,.clo 71 [] [.ptr 0 0,.ptr 1 0]),(3,.ptr 2 0),(6,.ptr 3 0),(7,.ptr 4 0),(8,.ptr 5 0)]
abbrev zRm:List (Nat×A):=[(2,.clo 71 [] [.ptr 0 0,.ptr 1 0]),(6,.ptr 3 0),(7,.ptr 4 0),(8,.ptr 5 0),(9,.ptr 6 0)]
theorem qBS {G:Int}(hG:F=max G 0)(hs:s.fuel=F)(hz:r.2.fail=0→qD r.1≤256)
 (hret:r.2.fail=0→Ret Tryz.prog 71 [.ptr 0 0,.ptr 1 0,.ptr 2 0] (eS p F s++dA d us) (.agg (zC r.1)) (eS p F r.2++dA d us))
 (hpan:r.2.fail≠0→yY Tryz.prog 71 [.ptr 0 0,.ptr 1 0,.ptr 2 0] (eS p F s++dA d us) fun o σ'=>o=.pan (zON r.2.fail)∧σ'[1]?=some (.box (zH d))∧σ'[2]?=some (.box [.sl us.length (zJ us)])) :
 Ret Tryz.prog 70 [.agg (zM p),int G,.clo 71 [] [.ptr 0 0,.ptr 1 0]] (dA d us) (zLJ F r) (dA d us):=by
 have hP:=eP p;refine zFl (fun H L w vs hst hargs=>?_);have hL:L.length=2:=hst.len
 suffices h:∀R:Ending→World→Prop,(∀(v:Value) (σ':St) (H':Mem) (L':List LI) (w':World) (r':A),Rel H' L' r' v→Nxt H L w H' L' σ' w'→zFz 2 (zLJ F r) (dA d us) (.ret r') σ'→R (.returned v) w')→CallsIn Fence.wide 0 Tryz.prog 70 vs.toArray w R from
  callsIn_wide.1 (h _ fun v σ' H' L' w' r' g1 g2 g3=>⟨.ret r',σ',H',L',⟨v,rfl,g1⟩,g2,g3⟩)
 intro R hR;refine callsIn_of_wp_defers (n:=0) (F:=Fence.wide) Tryz.func70 rfl trivial ?_;refine zIj (n0:=2) (hint:=hDo) (l:=qIx) (N:=28) (by kernel_rfl) (zJc hargs _) hst (Q:=fun x env τ=>x=.norm∧zA0 2 (qC (qOM G))
  (dA d us++[.box (zM p),.box (zC vz),.box [int 0],.box [int 0]]) env τ) ?_ (fun env' τ H' L' w' a' hd' he' hn' hq'=>?_) (fun x _ _ _ _ _ _ hx _ _ _ hq=>(hx hq.1).elim)
 ·unfold qIx;simp[hP];exact zP [0,1,2,3,4,5] 0 (by decide) (by simp) (by simp[zC,jQ,qP,zV]) (by simp)
 obtain⟨H',L',hn',he'⟩:=hq'.2 _ _ _ _ _ _ _ _ hL hn' he';refine zIj (n0:=2) (hint:=hDo) (l:=qIy) (N:=28) (by kernel_rfl) he' hn'.st (Q:=fun x env τ=>x=.norm∧zA0 2 (qC zRm) (sDo (dA d us) p F vz 0 0 s) env τ)
  ?_ (fun env' τ H1 L1 w' a' hd'' he1 hn1 hq1=>?_) (fun x _ _ _ _ _ _ hx _ _ _ hq=>(hx hq.1).elim)
 ·unfold qIy;simp[hP];exact zP [0,1,2,3,4,5,6] 0 (by decide) (by simp) (by simp[zC,jQ,qP,zV,eS,hP,hs]; omega) (by simp)
 rw[hd']at hd'';obtain⟨H',L',hn',he'⟩:=hq1.2 _ _ _ _ _ _ _ _ hL (hn'.trans hn1) he1;have hmf:∀(fn:Fn) (first cap:Array Value) (w:World),(Instr.makeFunc fn first cap).run Tryz.prog w=.ok (.func fn first cap) w:=fun _ _ _ _=>rfl
 have hsz:28≤a'.tmps.size:=he'.1;have hsz':15<a'.tmps.size:=by omega
 refine wpIn_seq (wpIn_region_list ?_);simp only[wpListIn];simp[Region.wanted,Oper.wpIn,Oper.uponIn,go_sem,hmf,Exit.then,hsz',hd'',wpListIn];have h6:=he'.2 6;have h7:=he'.2 7;have h8:=he'.2 8;rw[jDh]at h6 h7 h8;have he3:∀X,zX H' L' 28 (qC zRm) (a'.tmps.setIfInBounds 15 X):=fun X=>by
  have:=he'.put (a:=a') (d:=some 15) (fun x hx=>by cases hx; omega) (r:=.any) (v:=X) (by simp[Rel]);have h15:Env.put (qC zRm) (some 15) .any=qC zRm:=by
   funext t;simp only[Env.put];split
   ·rename_i ht; subst ht; rfl
   ·rfl
  rw[h15]at this;exact this
 generalize a'.tmps[6]?.getD undef=pv at *
 generalize a'.tmps[7]?.getD undef=ps at *
 generalize a'.tmps[8]?.getD undef=pe at *
 have he3:=he3 (Value.func (Fn.func 107) #[] #[pv,ps,pe]);generalize a'.tmps.setIfInBounds 15 (Value.func (Fn.func 107) #[] #[pv,ps,pe])=tm at *
 have idle:∀(pv ps pe:Value) (tm:Array Value) (w3:World) (v:Value),(results Tryz.f70 tm).run Tryz.prog w3=.ok v w3→R (.returned v) w3→LeavesIn Fence.wide 0 Tryz.prog Tryz.f70 tm R [dfr pv ps pe] .returning w3:=fun pv ps pe tm w3 v g1 g2=>by refine leavesIn_cons (f:=107) (args:=#[pv,ps,pe]) (by simp) (by simp[Fence.wide]) (by simp[go_sem]) (fun _ _=>trivial) ?_;refine(zTw pv ps pe w3).mono ?_;rintro e u' w'' ⟨rfl,rfl,rfl⟩;exact⟨v,g1,g2⟩
 by_cases hf:r.2.fail=0
 ·refine zIj (n0:=2) (hint:=hDo) (l:=zYy) (N:=28) (by kernel_rfl) he3 hn'.st (Q:=fun x env τ=>x=.norm∧zA0 2 (qC zRm) (sDo (dA d us) p F r.1 0 0 r.2) env τ) ?_
   (fun env' τ H1 L1 w1 a1 hd1 he1 hn1 hq1=>?_) (fun x _ _ _ _ _ _ hx _ _ _ hq=>(hx hq.1).elim)
  ·unfold zYy;simp[eS,hP];refine jN (hret hf) [6,0,1] (by decide) (by simp[eS,hP]) (by simp) ?_;simp[eS,hP,zC];exact zP [0,1,2,3,4,5,6] 0 (by decide) (by simp) (by simp[zC]) (by simp)
  obtain⟨H',L',hn',he'⟩:=hq1.2 _ _ _ _ _ _ _ _ hL (hn'.trans hn1) he1;have hco:=zGY r.1.kids (by have:=hz hf; have:=zC3 r.1; omega);refine zIj (n0:=2) (hint:=hDo) (l:=qIz) (N:=28) (by kernel_rfl) he' hn'.st (Q:=fun x env τ=>x=.norm∧zA0 2 (qC zRm) (sDo (dA d us) p F r.1 0 0 r.2) env τ) ?_
   (fun env' τ H1 L1 w1 a1 hd2 he1 hn1 hq1=>?_) (fun x _ _ _ _ _ _ hx _ _ _ hq=>(hx hq.1).elim)
  ·unfold qIz;simp[eS,hP,zC];refine qK hco (by simp) (by simp) ?_;simp[eS,hP,zC];exact zP [0,1,2,3,4,5,6] 0 (by decide) (by simp) (by simp[zC]) (by simp)
  obtain⟨H',L',hn',he'⟩:=hq1.2 _ _ _ _ _ _ _ _ hL (hn'.trans hn1) he1;refine zWP (n0:=2) (hint:=hDo) (l:=qI0) (N:=28) (by kernel_rfl) he' hn'.st (Q:=fun x env τ=>x=.norm∧zA0 2 (qC zRm) (sDo (dA d us) p F r.1 (F-r.2.fuel) 0 r.2) env τ) ?_
   (fun env' τ H1 L1 w1 a1 hd3 he1 hn1 hq1=>?_) (fun x _ _ _ _ _ _ hx _ _ _ hq=>(hx hq.1).elim)
  ·unfold qI0;simp[eS,hP,zC]
   try refine⟨(zG7 (by decide) (by decide)).2 (by simp[zBt]),(zOd (by decide) (by decide)).2 (by simp[zFa]),?_⟩
   exact zP [0,1,2,3,4,5,6] 0 (by decide) (by simp) (by simp[zC]) (by simp)
  obtain⟨H',L',hn',he'⟩:=hq1.2 _ _ _ _ _ _ _ _ hL (hn'.trans hn1) he1;have hds:a1.defers=[dfr pv ps pe]:=hd3.trans (hd2.trans hd1);refine wpIn_ret ?_;show LeavesIn Fence.wide 0 Tryz.prog Tryz.f70 a1.tmps R a1.defers .returning w1;rw[hds];obtain⟨v,g1,g2⟩:=zGj (P:=Tryz.prog) (fn:=Tryz.f70) (rs:=[.cell 6 3 true,.cell 7 1 false,.cell 8 1 false]) (by kernel_rfl) he' hn'.st (a:=.tup [.agg (zC r.1),int (F-r.2.fuel),int 0]) (by simp[zRC,zAP,zDZ,ldA,zC]);exact idle pv ps pe _ _ v g1 (hR v _ _ _ _ _ g2 hn' (zI [0,1] 0 (by decide) (by simp) (by simp) (by simp[zLJ,hf,zC])))
 ·refine zIj (n0:=2) (hint:=hDo) (l:=zYy) (N:=28) (by kernel_rfl) he3 hn'.st (Q:=fun x env τ=>x=.pan (zON r.2.fail)∧(env 6=.ptr 3 0∧env 7=.ptr 4 0∧env 8=.ptr 5 0)∧τ[0]?=some (.box (zH d))∧τ[1]?=some (.box [.sl us.length (zJ us)]) ∧
   τ[3]?=some (.box [int 0,int 0,.sl 0 []])∧τ[4]?=some (.box [int 0])∧τ[5]?=some (.box [int 0])) ?_ (fun env' τ H1 L1 w1 a1 hd1 he1 hn1 hq1=>by cases hq1.1) (fun x env' τ H1 L1 w1 a1 hx hd1 he1 hn1 hq1=>?_)
  ·unfold zYy;simp[eS,hP];refine zI3 (C:=fun vs w R=>Calls Tryz.prog _ vs.toArray w R) (zGW Tryz.prog _) (hpan hf) [6,0,1] (by decide) (by simp[eS,hP]) (by simp) fun o σ1 h0=>?_
   obtain⟨rfl,g1,g2⟩:=h0;have hlen:∀n,3≤(σ1.map (zA9 [6,0,1] n)).length:=fun n=>by rw[jB4];exact(jA1.1 g2).1
   refine⟨rfl,⟨rfl,rfl,rfl⟩,?_,?_,?_,?_,?_⟩
   ·rw[zDx (js:=[6,0,1]) (hlen _) (by decide) (by simp) (i:=1) rfl,jCl];simp[g1,zA9,vwO]
   ·rw[zDx (js:=[6,0,1]) (hlen _) (by decide) (by simp) (i:=2) rfl,jCl];simp[g2,zA9,vwO]
   ·rw[zCH (by simp) (by simp)];simp[zC,jQ,qP,zV]
   ·rw[zCH (by simp) (by simp)];simp
   ·rw[zCH (by simp) (by simp)];simp
  ·obtain⟨rfl,⟨e6,e7,e8⟩,t0,t1,t3,t4,t5⟩:=hq1;have l3:=(jA1.1 t3).1;have l4:=(jA1.1 t4).1;have l5:=(jA1.1 t5).1;have hds:a1.defers=[dfr pv ps pe]:=hd1;show LeavesIn Fence.wide 0 Tryz.prog Tryz.f70 a1.tmps R a1.defers (.panicking [{v:=zON r.2.fail,recovered:=false}]) w1;rw[hds];refine leavesIn_cons (f:=107) (args:=#[pv,ps,pe]) (by simp) (by simp[Fence.wide]) (by simp[go_sem]) (fun _ _=>trivial) ?_;refine(zOK (vs:=[pv,ps,pe]) hn1.st (qJ (Rel.mono hn1.step.hle hn1.lle _ h6) (qJ (Rel.mono hn1.step.hle hn1.lle _ h7) (qJ (Rel.mono hn1.step.hle hn1.lle _ h8) jK))) t3 t4 t5 (by decide) (by decide) (by decide)).mono ?_;rintro e u' w'' ⟨rfl,rfl,H2,L2,hn2⟩;obtain⟨v,g1,g2⟩:=zGj (P:=Tryz.prog) (fn:=Tryz.f70) (rs:=[.cell 6 3 true,.cell 7 1 false,.cell 8 1 false]) (by kernel_rfl) (he1.mono hn2.step.hle hn2.lle) hn2.st (a:=.tup [.agg [int 0,int 0,.nil],int 0,int r.2.fail])
    (by simp[zRC,zAP,zDZ,ldA,e6,e7,e8,jDa,l3,l4,l5])
   exact⟨v,g1,hR v _ _ _ _ _ g2 (hn'.trans (hn1.trans hn2)) (zI [0,1] 0 (by decide) (by simp) (by simp[t0,t1]) (by simp[zLJ,hf,zC,jQ,qP,zV]))⟩
end
end Go.Proofs.YtdnelmeboihpkaaGreatDoor
namespace Go.Proofs.YtdnelmeboihpkaaGreatDoor
open Go.Abs
theorem zZd (p:Prg)(d:Dfn)(vs:List Val)(fuel:Int):Fl (zF3 p d vs fuel).2:=zO1 (zPA 2 fuel.toNat) d vs _ (.inl rfl)
end Go.Proofs.YtdnelmeboihpkaaGreatDoor
namespace Go.Proofs.YtdnelmeboihpkaaGreatDoor
open Go Go.Abs
section
variable {p:Prg}{F:Int}{d:Dfn}{us:List Val}{s:XS}{r:Val×XS}
theorem zV5 (hb:RP 72 [.ptr 0 0,.agg (zH d),.sl us.length (zJ us)] p F s (.agg (zC r.1)) r.2)(hf:r.2.fail=0) :
 Ret Tryz.prog 71 [.ptr 0 0,.ptr 1 0,.ptr 2 0] (eS p F s++dA d us) (.agg (zC r.1)) (eS p F r.2++dA d us):=by
 have hP:=eP p;refine zK Tryz.func71 rfl qHa (rs:=[.cell 4 3 true]) (by kernel_rfl) ?_;unfold qBa;simp[eS,hP];refine jN (hb.ret hf) [0] (by decide) (by simp[eS,hP]) (by simp) ?_;simp[eS,hP,zC];exact zI [0,1,2] 0 (by decide) (by simp) (by simp) (by simp[zC])
theorem zV4 (hb:RP 72 [.ptr 0 0,.agg (zH d),.sl us.length (zJ us)] p F s (.agg (zC r.1)) r.2)(hf:r.2.fail≠0) :
 yY Tryz.prog 71 [.ptr 0 0,.ptr 1 0,.ptr 2 0] (eS p F s++dA d us) fun o σ'=>o=.pan (zON r.2.fail)∧σ'[1]?=some (.box (zH d))∧σ'[2]?=some (.box [.sl us.length (zJ us)]):=by
 have hP:=eP p;refine zFC Tryz.func71 rfl qHa (rs:=[.cell 4 3 true]) (by kernel_rfl) ?_;unfold qBa wpF;simp[eS,hP];refine zH6 (hb.pan hf) [0] (by decide) (by simp[eS,hP]) (by simp) fun τ=>?_
 refine⟨rfl,?_,?_⟩
 ·rw[zCH (by simp) (by simp)]; rfl
 ·rw[zCH (by simp) (by simp)]; rfl
end
def qFO:K:=G [kO 2 0,kO 3 1,kZ 4 kz0,kMb 5 false] (G [J 9 2 2,J 10 3 3,kC 11 96 [(kt 9),(kt 10)],M 8 11,kE 12 8 0,kE 13 8 1,kZ 6 kz0,S 6 12 31,M 7 13] (Z (K.wk (K.dops [(0,0,J 14 6 31),(1,0,M 15 7),(2,0,M 16 15),(3,0,T 16 true (D 17 6 3)),(4,0,T 16 true (L 18 17 1)),(5,0,T 16 true (kQi 19 18 0 true)),(6,0,kPf 20 16 19),(7,0,M 21 20),(8,2,T 21 true (D 22 6 3)),(9,2,T 21 true (L 23 22 1)),(10,0,T 21 true (kQi 24 23 1 true)),(11,0,kPf 25 21 24),(12,0,S 4 14 31),(13,0,M 5 25)])) kr))
def qOG:Nat→Option (List (Nat×Nat)):=fun r=>match r with | 2=>some [(0,0),(1,0),(2,0),(3,0),(4,0),(5,0),(6,0),(7,0),(8,2),(9,2),(10,0),(11,0),(12,0),(13,0)] | _=>none
theorem qMN:qF Tryz.prog Tryz.f69.ntmps qOG (Tryz.f69.body.getD .skip)=some qFO.erase:=by kernel_rfl
@[simp] theorem qNv:zA Tryz.prog 69=true:=by kernel_rfl
def zLV (p:Prg)(id:Id):A:=.tup [.agg (zH ((qW p.defs id).getD .zero)),bl ((qW p.defs id).isSome&&zGV ((qW p.defs id).getD .zero))]
theorem zV2 (p:Prg)(id:Id):Ret Tryz.prog 69 [.agg (zM p),.agg (zF id)] [] (zLV p id) []:=by
 have hP:=eP p;have hdf:=zD1 p id;unfold zLV;unfold zCa at hdf;generalize (qW p.defs id).getD .zero=d at *
 generalize (qW p.defs id).isSome=b at *
 refine qS Tryz.func69 rfl qMN (rs:=[.cell 4 31 true,.slot 5]) (by kernel_rfl) ?_;unfold qFO;simp[hP,zF];refine qK hdf (by simp[zM,zF]) (by simp) ?_;simp[zH];refine⟨_,_,zP (l:=[(4,.ptr 0 0),(6,.rptr (zH d)),(7,bl b)]) (σ':=[.box (kz0.map qN)]) [2] 1 (by simp) (by simp) (by simp) (by simp[zH]),?_⟩;cases b
 ·simp[zH];exact zB 0 (by simp[zH])
 ·by_cases h0:d.kind=0
  ·simp[zH,h0];exact zB 0 (by simp[zH,h0,zGV])
  ·by_cases h1:d.kind=1
   ·simp[zH,h0,h1];exact zB 0 (by simp[zH,h1,zGV])
   ·simp[zH,h0,h1];exact zB 0 (by simp[zH,h0,h1,zGV])
def zEr (p:Prg)(id:Id)(vs:List Val)(fuel:Int):A:=match qW p.defs id with
 | none=>.tup [.agg (zC vz),int 0,int 6]
 | some d=>if zGV d=false then .tup [.agg (zC vz),int 0,int 6] else if vs.length≠d.slots.length then .tup [.agg (zC vz),int 0,int 1]
  else if zB8 p (d.slots.map Slt.typ) vs=false then .tup [.agg (zC vz),int 0,int 1] else zLJ fuel (zE4 p d vs fuel)
def zZ3:K:=G [kO 4 0,kO 5 1,kO 6 2,kZ 8 [ki,ki,kl],kMi 9 0,kMi 10 0] (G [J 16 4 2,J 17 5 3,kC 18 69 [(kt 16),(kt 17)],M 15 18,kE 19 15 0,kE 20 15 1,kZ 11 kz0,S 11 19 31,M 12 20] (Z (G [M 21 12,kR 22 21] (Y 22 (G [kb 23 [ki,ki,kl] [],S 8 23 3,kMi 9 0,kMi 10 6] kr) ks)) (Z (G [L 24 6 1,kN 25 24,D 26 11 8,L 27 26 1,kN 28 27,kQ 29 25 28 true] (Y 29 (G [kb 30 [ki,ki,kl] [],S 8 30 3,kMi 9 0,kMi 10 1] kr) ks)) (Z (G [D 31 11 8,L 32 31 1,kN 33 32,kMi 34 0] (K.block 0 (K.loop (G [kB 35 34 33 .lss] (Z (Y 35 ks (K.exit 0)) (Z (K.block 1 (G [M 36 34,kX 37 32 34 11,J 38 37 11,kZ 14 kz5,M 13 36,S 14 38 11] (Z (K.dops [(0,0,J 39 4 2),(1,0,D 40 14 4),(2,0,J 41 40 5),(3,0,L 42 6 1),(4,0,M 43 13),(5,0,kX 44 42 43 3),(6,0,J 45 44 3),(7,0,kC 46 30 [(kt 39),(kt 41),(kt 45)]),(8,0,kR 47 46)]) (Y 47 (G [kb 48 [ki,ki,kl] [],S 8 48 3,kMi 9 0,kMi 10 1] kr) ks)))) (K.ops [kBi 49 34 1 .add,M 34 49]))))))) (G [J 50 4 2,M 51 3,⟨none,.clo (some 52) 71 [] [(kt 11),(kt 6)]⟩,kC 53 70 [(kt 50),(kt 51),(kt 52)],kE 54 53 0,kE 55 53 1,kE 56 53 2,S 8 54 3,M 9 55,M 10 56] kr)))))
theorem qHb:zO Tryz.prog Tryz.f29.ntmps (Tryz.f29.body.getD .skip)=some zZ3.erase:=by kernel_rfl
@[simp] theorem qK7:zA Tryz.prog 29=true:=by kernel_rfl
@[simp] theorem qLd:zA Tryz.prog 70=true:=by kernel_rfl
theorem zQL {p:Prg}{hs:List Hd}(hf:Fit p hs)(id:Id)(vs:List Val){gas fuel:Int}(hG:fuel=max gas 0)(hfu:fuel≤90000)(hz:∀v∈vs,qD v≤256∧zAs v≤24) :
 Ret Tryz.prog 29 [.agg (zM p),.agg (zF id),.sl vs.length (zJ vs),int gas] [] (zEr p id vs fuel) []:=by
 have hP:=eP p;have hbo:=zV2 p id;refine qS Tryz.func29 rfl qHb (rs:=[.cell 8 3 true,.slot 9,.slot 10]) (by kernel_rfl) ?_;unfold zZ3;simp[hP,zF];refine qK hbo (by simp[zM,zF]) (by simp[zLV]) ?_;cases hd:qW p.defs id with
 | none =>
  rw[show zEr p id vs fuel=.tup [.agg (zC vz),int 0,int 6] by simp[zEr,hd]];simp[zLV,hd,zH];exact zB 0 (by simp[zC,jQ,qP,zV])
 | some d =>
 have hdm:=(zAu hd).1;obtain⟨s1,s6,_,snd,sty⟩:=hf.slots d hdm;cases hb:zGV d with
 | false =>
  rw[show zEr p id vs fuel=.tup [.agg (zC vz),int 0,int 6] by simp[zEr,hd,hb]];simp[zLV,hd,hb,zH];exact zB 0 (by simp[zC,jQ,qP,zV])
 | true =>
 simp[zLV,hd,hb,zH];by_cases hl:vs.length=d.slots.length
 ·have hfit:=fun i (hi:i<d.slots.length)=>zNi p d.slots[i].typ (vs[i]'(by omega)) (hz _ (jA3 _)).1 (hz _ (jA3 _)).2
  simp[hl];intro hls;refine jX (S:=Nat) (fun i=>[(3,int gas),(4,.ptr 0 0),(6,.ptr 2 0),(8,.ptr 3 0),(11,.ptr 4 0),(32,.sl d.slots.length (yN d.slots)),(33,int d.slots.length),(34,int i)])
   (fun i=>[.box (zM p),.box (zF id),.box [.sl vs.length (zJ vs)],.box [int 0,int 0,.nil],.box (zH d)]) (fun i=>i≤d.slots.length∧∀j (hj:j<i) (hj':j<d.slots.length),zAL p d.slots[j].typ (vs[j]'(by omega))=true) (fun i=>d.slots.length-i) 0 ⟨by omega,fun j hj=>by omega⟩
   (zP [0,1,2,3,4] 0 (by decide) (by simp) (by simp[hP,zH,zF,hl]) (by simp)) ?_
  rintro i ⟨hi,hft⟩;by_cases hil:i<d.slots.length
  ·have hiv:i<vs.length:=by omega
   have hdr:=yB hil;have hdv:=qY hiv;have hfi:=hfit i hil;cases hfv:zAL p d.slots[i].typ vs[i]with
   | false =>
    rw[hfv]at hfi;have hfl:zB8 p (d.slots.map Slt.typ) vs=false:=by
     cases hq:zB8 p (d.slots.map Slt.typ) vs with
     | false=>rfl
     | true =>
      have:=zGx hq i (by simpa using hil) hiv;rw[jBk,hfv]at this;cases this
    rw[show zEr p id vs fuel=.tup [.agg (zC vz),int 0,int 1] by simp[zEr,hd,hb,hl,hfl]];simp[hP,hil,hiv,hdr,hdv,yJ,zH];refine qR hfi (by simp[hP,zS,zC]) (by simp) ?_;simp;exact zB 0 (by simp[zC,jQ,qP,zV])
   | true =>
    rw[hfv]at hfi;simp[hP,hil,hiv,hdr,hdv,yJ,zH];refine qR hfi (by simp[hP,zS,zC]) (by simp) ?_;simp;refine zU (i+1) ⟨hil,fun j hj hj'=>?_⟩ (by omega) (zP [0,1,2,3,4] 0 (by decide) (by simp) (by simp[hP,zH]) (by simp[qO hil hls]));by_cases hji:j=i
    ·subst hji; exact hfv
    ·exact hft j (by omega) hj'
  ·have hie:i=d.slots.length:=by omega
   subst hie;have hfl:zB8 p (d.slots.map Slt.typ) vs=true:=zMq (by simpa using hl) fun j h1 h2=>by rw[jBk];exact hft j (by simpa using h1) (by simpa using h1)
   rw[show zEr p id vs fuel=zLJ fuel (zE4 p d vs fuel) by simp[zEr,hd,hb,hl,hfl]];have hty:TyL p (d.slots.map Slt.typ) vs:=TyL.of (by simpa using hl) fun j hj=>by rw[jBk];exact zSx hf (sty _ (jA3 _)) _ (hft j (by omega) (by omega))
   have hV:=EnvT.args hty fun v hv=>(hz v hv).1
   have hIh:=zSs (F:=fuel) hf.bods (zTg hf) (by omega) fuel.toNat (by omega);have hca:=zOI hIh d vs hl s6 (s:=⟨fuel,0,zR4 p d.slots [],[]⟩) rfl (fun _=>⟨_,_,hf.bods _ d hd hb,hV,zSp snd vs hl⟩) ⟨by simp only; omega,by simp only; omega⟩;change RP _ _ _ _ _ (.agg (zC (zE4 p d vs fuel).1)) (zE4 p d vs fuel).2 at hca;have hsz:(zE4 p d vs fuel).2.fail=0→qD (zE4 p d vs fuel).1≤256:=fun h0=>by
    have he:zE4 p d vs fuel=zAq p 1 fuel.toNat d.body (zCF d.slots vs) ⟨fuel,0,zR4 p d.slots []++[d.id],[]⟩:=by unfold zE4 zB5; simp
    rw[he]at h0 ⊢;exact(hIh.snd _ _ _ _ _ (hf.bods _ d hd hb) hV h0).2
   generalize zE4 p d vs fuel=r at *
   have hdo:=qBS (d:=d) (us:=vs) hG rfl hsz (zV5 hca) (zV4 hca);simp[hP];refine jN hdo [4,2] (by decide) (by simp[zH]) (by simp[hP]) ?_;by_cases h0:r.2.fail=0
   ·simp[zLJ,h0,zC];exact zB 0 (by simp)
   ·simp[zLJ,h0,zC];exact zB 0 (by simp)
 ·rw[show zEr p id vs fuel=.tup [.agg (zC vz),int 0,int 1] by simp[zEr,hd,hb,hl]];have hl':¬((vs.length:Int)=d.slots.length):=by omega
  simp[hl']
  intros
  exact zB 0 (by simp[zC,jQ,qP,zV])
end Go.Proofs.YtdnelmeboihpkaaGreatDoor
namespace Go.Proofs.YtdnelmeboihpkaaGreatDoor
open Go.Abs
def SE (s s':XS):Prop:=s.fuel=s'.fuel∧s.fail=s'.fail
def EqF (r r':Val×XS):Prop:=SE r.2 r'.2∧(r.2.fail=0→r.1=r'.1)
theorem SE.rfl' (s:XS):SE s s:=⟨rfl,rfl⟩
theorem zFO {s s':XS}(h:SE s s')(v:Val):EqF (v,s) (v,s'):=⟨h,fun _=>rfl⟩
section
variable {p:Prg}{f g:Evl}
theorem zOu (hf:zEq f)(h:∀e V s s',SE s s'→EqF (f e V s) (g e V s'))(V:List EVar):∀(l:List Exp) (s s':XS),SE s s'→SE (qZ f V l s).2 (qZ g V l s').2∧((qZ f V l s).2.fail=0→(qZ f V l s).1=(qZ g V l s').1)
 | [],s,s',hs=>⟨hs,fun _=>rfl⟩
 | e::l,s,s',hs=>by have h1:=h e V s s' hs;have h2:=zOu hf h V l _ _ h1.1;refine⟨by simp only[qZ]; exact h2.1,fun h0=>?_⟩;have h3:=zSg hf h0;simp only[qZ]at h0 ⊢;rw[←h2.2 h0,h1.2 h3]
theorem zMs (hf:zEq f)(hg:zEq g)(h:∀e V s s',SE s s'→EqF (f e V s) (g e V s'))(V:List EVar)(i:Id)(b:Exp):∀(l:List Val) (r r':Val×XS),EqF r r'→EqF (yF f V i b l r) (yF g V i b l r')
 | [],r,r',hr=>hr
 | x::l,r,r',hr=>by
  simp only[yF];refine zMs hf hg h V i b l _ _ ?_;by_cases h0:r.2.fail=0
  ·rw[hr.2 h0]; exact h _ _ _ _ hr.1
  ·rw[hf _ _ _ h0,hg _ _ _ (by rw[←hr.1.2]; exact h0)];exact zFO hr.1 _
theorem zXs {c c':Bool}{s s':XS}{v v':Val}(hs:SE s s')(h:s.fail=0→v=v'):EqF (zf c s v,s) (zf c' s' v',s'):=by refine⟨hs,fun hf=>?_⟩;simp only at hf ⊢;rw[zFx hf,zFx (by rw[←hs.2]; exact hf),h hf]
theorem zI1 (h:∀e V s s',SE s s'→EqF (f e V s) (g e V s'))(d:Dfn){vs vs':List Val}{s s':XS}(hs:SE s s')(hv:s.fail=0→vs=vs'):EqF (zB5 f d vs s) (zB5 g d vs' s'):=by
 unfold zB5;by_cases hf:s.fail=0
 ·rw[if_neg (by simp[hf]),if_neg (by simp[←hs.2,hf]),hv hf];exact h _ _ _ _ hs
 ·rw[if_pos hf,if_pos (by rw[←hs.2]; exact hf)];exact zFO hs _
theorem zO2 (hf:zEq f)(hg:zEq g)(h:∀e V s s',SE s s'→EqF (f e V s) (g e V s'))(e:Exp)(V:List EVar){s s':XS}(hs:SE s s'):EqF (zAn f e V s) (zAn g e V s'):=by
 unfold zAn;have h0:=h (e.kids.headD .zero) V s s' hs;generalize f (e.kids.headD .zero) V s=r at *
 generalize g (e.kids.headD .zero) V s'=r' at *
 obtain⟨v,t⟩:=r;obtain⟨v',t'⟩:=r';by_cases hz:t.fail=0
 ·have hz':t'.fail=0:=h0.1.2.symm.trans hz;have hv:v=v':=h0.2 hz;subst hv;simp only[hz,hz',ne_eq,not_true,if_false]
  repeat' split
  all_goals first
   | exact zFO h0.1 _
   | exact h _ _ _ _ h0.1
   | exact zMs hf hg h _ _ _ _ _ _ (h _ _ _ _ h0.1)
 ·rw[if_pos hz,if_pos (by simpa using fun e:t'.fail=0=>hz (h0.1.2.trans e))];exact zFO h0.1 _
theorem zRR (hf:zEq f)(hg:zEq g)(h:∀e V s s',SE s s'→EqF (f e V s) (g e V s'))(a b:Nat)(e:Exp)(V:List EVar){s s':XS}(hs:SE s s'):EqF (qV p a f e V s) (qV p b g e V s'):=by
 unfold qV;obtain⟨h1,h2⟩:=zOu hf h V e.kids s s' hs;generalize qZ f V e.kids s=r at *
 generalize qZ g V e.kids s'=r' at *
 repeat' split
 all_goals first
  | exact zFO hs _
  | exact zO2 hf hg h _ _ hs
  | exact zI1 h _ h1 h2
  | exact zXs h1 fun hz=>by rw[h2 hz]
theorem zVD (a b:Nat){r r':Val×XS}(h:EqF r r'):EqF (zOL a r) (zOL b r'):=by
 unfold zOL;have e:SE (zDi r) (zDi r')∧((zDi r).fail=0→r.1=r'.1):=by
  unfold zDi;by_cases hf:r.2.fail=0
  ·have hf':=h.1.2.symm.trans hf;rw[←h.2 hf];by_cases hb:zJD r.1
   ·rw[if_pos ⟨hf,hb⟩,if_pos ⟨hf',hb⟩];exact⟨⟨h.1.1,rfl⟩,fun _=>rfl⟩
   ·rw[if_neg fun k=>hb k.2,if_neg fun k=>hb k.2];exact⟨h.1,fun _=>rfl⟩
  ·rw[if_neg fun k=>hf k.1,if_neg fun k=>hf (h.1.2.trans k.1)];exact⟨h.1,h.2⟩
 exact zXs e.1 e.2
theorem zIN (a b:Nat):∀(m:Nat) (e:Exp) (V:List EVar) (s s':XS),SE s s'→EqF (zAq p a m e V s) (zAq p b m e V s')
 | 0,e,V,s,s',hs=>by
  rw[zAq,zAq,hs.2];split
  ·exact zFO hs _
  ·exact zFO (s:={s with fail:=zFK}) (s':={s' with fail:=zFK}) ⟨hs.1,rfl⟩ _
 | m+1,e,V,s,s',hs=>by
  rw[zAq,zAq,hs.2,hs.1];split
  ·exact zFO hs _
  ·split
   ·exact⟨⟨rfl,rfl⟩,fun _=>rfl⟩
   ·exact zVD a b (zRR (zD7 p a m) (zD7 p b m) (zIN a b m) a b e V ⟨by simp only[zEc]; rw[hs.1],hs.2⟩)
end
theorem zXE {p:Prg}{hs:List Hd}(hf:Fit p hs)(id:Id)(vs:List Val)(gas:Int):zEr p id vs (max gas 0)=zCU (yR p id vs gas):=by
 unfold zEr yR;cases hd:qW p.defs id with
 | none=>rfl
 | some d =>
  have hk:=hf.kinds d (zAu hd).1;have hbb:zGV d=zQ1 d.kind:=by
   have h6:d.kind=0∨d.kind=1∨d.kind=2∨d.kind=3∨d.kind=4∨d.kind=5:=by omega
   unfold zGV zQ1;rcases h6 with h | h | h | h | h | h<;>rw[h]<;>rfl
  simp only[hbb];by_cases h1:zQ1 d.kind=false
  ·rw[if_pos h1,if_pos h1]; rfl
  rw[if_neg h1,if_neg h1];by_cases h2:vs.length≠d.slots.length
  ·rw[if_pos h2,if_pos h2]; rfl
  rw[if_neg h2,if_neg h2];by_cases h3:zB8 p (d.slots.map Slt.typ) vs=false
  ·rw[if_pos h3,if_pos h3]; rfl
  rw[if_neg h3,if_neg h3];have hn:(max gas 0).toNat=gas.toNat:=by omega
  by_cases hg:0≤gas
  ·have he:EqF (zE4 p d vs (max gas 0)) (zF3 p d vs gas):=by unfold zE4 zF3;rw[hn];exact zI1 (zIN 1 2 gas.toNat) d ⟨by simp only; omega,rfl⟩ fun _=>rfl
   obtain⟨⟨e1,e2⟩,e3⟩:=he;unfold zLJ;by_cases h0:(zE4 p d vs (max gas 0)).2.fail=0
   ·rw[if_pos h0,if_neg (by simp[←e2,h0])];simp only[zCU];rw[e3 h0,e1,show max gas 0=gas by omega]
   ·rw[if_neg h0,if_pos (by rw[←e2]; exact h0),e2];rfl
  ·have hz:gas.toNat=0:=by omega
   have e1:(zE4 p d vs (max gas 0)).2.fail=zFK:=by unfold zE4 zB5; rw[hn,hz]; simp[zAq]
   have e2:(zF3 p d vs gas).2.fail=zFK:=by unfold zF3 zB5; rw[hz]; simp[zAq]
   unfold zLJ;rw[if_neg (by rw[e1]; decide),if_pos (by rw[e2]; decide),e1,e2];rfl
end Go.Proofs.YtdnelmeboihpkaaGreatDoor
