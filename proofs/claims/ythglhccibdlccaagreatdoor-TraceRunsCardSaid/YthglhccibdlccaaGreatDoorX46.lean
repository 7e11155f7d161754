/-
  eval: values, nodes.
  The reference's evaluator: values.
  The reference's tracer: nodes.
  The reference: what the types of a definition's slots reach.
  A run with less fuel does the same, until it has no more.
  eval: nodes; the evaluator does what the data says.
  The reference's evaluator: nodes.
-/
import Derived.Test.YthglhccibdlccaaGreatDoorX45
import Derived.Test.YthglhccibdlccaaGreatDoorX44
import Derived.Test.YthglhccibdlccaaGreatDoorX41
set_option linter.unusedVariables false
set_option linter.unusedSimpArgs false
namespace Go.Proofs.YthglhccibdlccaaGreatDoor
open Go.Abs
section
variable {p:Prg}{F m:Int}{ev:Evl}{B:List Bnd}{e:Exp}{V:List EVar}{v:Val}{s:XS}
def zFe:K:=G [kO 4 1,kZ 6 [ki,ki,kl]] (Z (G [D 9 4 3,L 10 9 1] (K.block 0 (G [kQi 12 10 0 false,M 11 12] (Y 11 (G [D 13 4 4,L 14 13 1,kb 15 [ki,ki,kl] [(1,1,(kt 14))],S 6 15 3] kr) (G [kQi 17 10 1 false,M 16 17] (Y 16 (G [D 18 4 4,L 19 18 1,kQi 20 19 0 true,kC 21 162 [(kt 20)],S 6 21 3] kr) (G [kQi 23 10 2 false,M 22 23] (Y 22 (G [M 24 2,D 25 4 5,J 26 25 3,D 27 4 4,L 28 27 1,kb 29 zGv [(0,3,(kt 26)),(3,1,(kt 28))],kC 30 163 [(kt 24),(kt 29)],S 6 30 3] kr) (G [kQi 32 10 3 false,M 31 32] (Y 31 (Z (K.dops [(0,0,M 34 0),(1,0,kU 35 34),(2,1,D 36 35 0),(3,1,J 37 36 2),(4,1,D 38 4 5),(5,1,J 39 38 3),(6,1,kC 40 42 [(kt 37),(kt 39)]),(7,0,M 33 40),(8,0,kE 41 33 0),(9,0,kE 42 33 1),(10,0,kZ 7 kz0),(11,0,S 7 41 31),(12,0,M 8 42)]) (Z (K.wk (K.dops [(0,0,M 43 0),(1,2,J 44 7 31),(2,0,M 45 0),(3,0,D 46 4 13),(4,0,L 47 46 1),(5,0,M 48 2),(6,10,kC 49 164 [(kt 45),(kt 47),(kt 48)]),(7,10,kC 50 68 [(kt 43),(kt 44),(kt 49)]),(8,0,S 6 50 3)])) kr)) (G [kQi 52 10 4 false,M 51 52] (Y 51 (Z (K.wk (K.dops [(0,2,D 53 4 4),(1,2,L 54 53 1),(2,0,M 55 0),(3,0,D 56 4 13),(4,0,L 57 56 1),(5,0,M 58 2),(6,10,kC 59 164 [(kt 55),(kt 57),(kt 58)]),(7,0,kC 60 145 [(kt 54),(kt 59)]),(8,0,S 6 60 3)])) kr) (G [kQi 62 10 7 false,M 61 62] (Y 61 (G [M 63 0,D 64 4 13,L 65 64 1,M 66 2,kC 67 164 [(kt 63),(kt 65),(kt 66)],kb 68 [ki,ki,kl] [(0,1,(kc 2)),(2,1,(kt 67))],S 6 68 3] kr) (G [kQi 70 10 9 false,M 69 70] (Y 69 (Z (K.wk (K.dops [(0,2,D 71 4 4),(1,2,L 72 71 1),(2,0,M 73 0),(3,0,D 74 4 13),(4,0,L 75 74 1),(5,0,
 M 76 2),(6,10,kC 77 164 [(kt 73),(kt 75),(kt 76)]),(7,0,kb 78 [ki,ki,kl] [(0,1,(kc 3)),(1,1,(kt 72)),(2,1,(kt 77))]),(8,0,S 6 78 3)])) kr) (G [kQi 80 10 11 false,M 79 80] (Y 79 (G [M 81 0,D 82 4 13,L 83 82 1,M 84 2,kC 85 164 [(kt 81),(kt 83),(kt 84)],kb 86 [ki,ki,kl] [(0,1,(kc 4)),(2,1,(kt 85))],S 6 86 3] kr) ks)))))))))))))))))) (Z (K.wk (K.dops [(0,0,M 87 0),(1,2,J 88 4 15),(2,0,M 89 2),(3,0,M 90 0),(4,0,D 91 4 13),(5,0,L 92 91 1),(6,0,kXi 93 92 15 0),(7,0,J 94 93 15),(8,0,M 95 2),(9,10,kC 96 115 [(kt 90),(kt 94),(kt 95)]),(10,10,kC 97 165 [(kt 87),(kt 88),(kt 89),(kt 96)]),(11,0,S 6 97 3)])) kr))
def qOy:Nat→Option (List (Nat×Nat)):=fun r=>match r with | 10=>some [(0,0),(1,2),(2,0),(3,0),(4,0),(5,0),(6,10),(7,10),(8,0)] | 12=>some [(0,2),(1,2),(2,0),(3,0),(4,0),(5,0),(6,10),(7,0),(8,0)] | 16=>some [(0,2),(1,2),(2,0),(3,0),(4,0),(5,0),(6,10),(7,0),(8,0)] | 19=>some [(0,0),(1,2),(2,0),(3,0),(4,0),(5,0),(6,0),(7,0),(8,0),(9,10),(10,10),(11,0)] | _=>none
theorem zFp:qC Tryz.prog Tryz.f140.ntmps qOy (Tryz.f140.body.getD .skip)=some zFe.erase:=by kernel_rfl
@[simp] theorem qNa:zA Tryz.prog 140=true:=by kernel_rfl
abbrev VaE (p:Prg)(F:Int)(e:Exp)(V:List EVar)(s:XS)(r:Val×XS):Prop:=RP 140 [.ptr 0 0,.agg (zF e),scE V] p F s (.agg (zI r.1)) r.2
abbrev AlE (p:Prg)(F:Int)(e:Exp)(V:List EVar)(s:XS)(r:List Val×XS):Prop:=RP 164 [.ptr 0 0,.sl e.kids.length (qL e.kids),scE V] p F s (.sl e.kids.length (zV r.1)) r.2
@[simp] theorem qD1 {σ : St}:zDn 2 σ = []:=rfl
theorem zXz (hs:s.fail=0)(hk:e.k=0):VaE p F e V s (.mk 0 e.n [],s):=by have hP:=eP p;refine⟨fun _=>?_,fun hf=>(hf hs).elim⟩;refine zH Tryz.func140 rfl zFp (rs:=[.cell 6 3 true]) (by kernel_rfl) ?_;unfold zFe;simp[eS,hP,zF,hk];exact zG [0] 0 (by decide) (by simp) (by simp) (by simp[zI,qG,zY,zM])
theorem zUO (hs:s.fail=0)(hk:e.k=1)(hn:e.n=0∨e.n=1):VaE p F e V s (.mk 1 e.n [],s):=by
 have hP:=eP p;have ht:zBB (decide (¬e.n=0))=.mk 1 e.n []:=by rcases hn with h | h<;>rw[h]<;>rfl
 refine⟨fun _=>?_,fun hf=>(hf hs).elim⟩;have hb:=zAA (decide (¬e.n=0));rw[ht]at hb;refine zH Tryz.func140 rfl zFp (rs:=[.cell 6 3 true]) (by kernel_rfl) ?_;unfold zFe;simp[eS,hP,zF,hk];refine zR hb (by simp) (by simp[zI]) ?_;simp[eS,hP,zI];exact zG [0] 0 (by decide) (by simp) (by simp) (by simp[zI,qG,zY,zM])
theorem zX1 (hs:s.fail=0)(hk:e.k=2):VaE p F e V s (zEf V e.ref e.n,s):=by
 have hP:=eP p;have hfi:=zU6 V.reverse e.ref e.n;have hfe:zJa V.reverse e.ref e.n=zEf V e.ref e.n:=rfl;rw[hfe]at hfi;generalize zEf V e.ref e.n=v at *
 refine⟨fun _=>?_,fun hf=>(hf hs).elim⟩;refine zH Tryz.func140 rfl zFp (rs:=[.cell 6 3 true]) (by kernel_rfl) ?_;unfold zFe;simp[eS,hP,zF,hk];refine zR hfi (by simp[qX]) (by simp[zI]) ?_;simp[eS,hP,zI];exact zG [0] 0 (by decide) (by simp) (by simp) (by simp[zI,qG,zY,zM])
theorem qB9 {a:Exp}{ks:List Exp}(hk:e.k=5∨e.k=6∨e.k=8∨e.k=10∨e.k=12)(hks:e.kids=a::ks){r1 r:Val×XS}(ha:zLj p F a V s r1)(hb:r1.2.fail=0→BrE p F e V r1.1 r1.2 r)(hx:r1.2.fail≠0→r.2=r1.2):VaE p F e V s r:=by
 have hP:=eP p;have hk0:¬e.k=0:=by omega
 have hk1:¬e.k=1:=by omega
 have hk2:¬e.k=2:=by omega
 have hk3:¬e.k=3:=by omega
 have hk4:¬e.k=4:=by omega
 have hk7:¬e.k=7:=by omega
 have hk9:¬e.k=9:=by omega
 have hk11:¬e.k=11:=by omega
 have h15:=zJ a ks;by_cases h1:r1.2.fail=0
 ·have hb:=hb h1;have ha:=ha.ret h1;constructor
  ·intro hf;refine zH Tryz.func140 rfl zFp (rs:=[.cell 6 3 true]) (by kernel_rfl) ?_;unfold zFe;simp[eS,hP,zF,hk0,hk1,hk2,hk3,hk4,hk7,hk9,hk11];refine⟨_,_,zS (l:=[(0,.ptr 0 0),(2,scE V),(4,.rptr [int e.id.a,int e.id.b,int e.id.c,int e.k,int e.n,int e.ref.a,int e.ref.b,int e.ref.c,int e.typ.k,int e.typ.id.a,int e.typ.id.b,int e.typ.id.c,.sl e.typ.kids.length (jB e.typ.kids),.sl e.kids.length (qL e.kids),.sl e.names.length (jY e.names)]),(6,.ptr 1 0)]) (σ':=eS p F s++[.box [int 0,int 0,.nil]]) [0,2] 1 (by decide) (by simp) (by simp[eS,hP]) (by simp[eS,hP,zF]),?_⟩;simp[eS,hP,zF,hks,h15];refine zBT ha [0] (by decide) (by simp[eS,hP]) (by simp[zF]) ?_;simp[eS,hP,zI];refine zBT (hb.ret hf) [0] (by decide) (by simp[eS,hP]) (by simp[zF,zI,hks,h15]) ?_;simp[eS,hP,zI];exact zG [0] 0 (by decide) (by simp) (by simp) (by simp[zI,qG,zY,zM])
  ·intro hf;refine yZ Tryz.func140 rfl zFp (rs:=[.cell 6 3 true]) (by kernel_rfl) ?_;unfold zFe wpF;simp[eS,hP,zF,hk0,hk1,hk2,hk3,hk4,hk7,hk9,hk11];refine⟨_,_,zS (l:=[(0,.ptr 0 0),(2,scE V),(4,.rptr [int e.id.a,int e.id.b,int e.id.c,int e.k,int e.n,int e.ref.a,int e.ref.b,int e.ref.c,int e.typ.k,int e.typ.id.a,int e.typ.id.b,int e.typ.id.c,.sl e.typ.kids.length (jB e.typ.kids),.sl e.kids.length (qL e.kids),.sl e.names.length (jY e.names)]),(6,.ptr 1 0)]) (σ':=eS p F s++[.box [int 0,int 0,.nil]]) [0,2] 1 (by decide) (by simp) (by simp[eS,hP]) (by simp[eS,hP,zF]),?_⟩;simp[eS,hP,zF,hks,h15];refine zBT ha [0] (by decide) (by simp[eS,hP]) (by simp[zF]) ?_;simp[eS,hP,zI];refine zDh (hb.pan hf) [0] (by decide) (by simp[eS,hP]) (by simp[zF,zI,hks,h15]) fun τ=>?_
   simp
 ·unfold VaE;rw[hx h1];refine⟨fun hf=>(h1 hf).elim,fun hf=>?_⟩;refine yZ Tryz.func140 rfl zFp (rs:=[.cell 6 3 true]) (by kernel_rfl) ?_;unfold zFe wpF;simp[eS,hP,zF,hk0,hk1,hk2,hk3,hk4,hk7,hk9,hk11];refine⟨_,_,zS (l:=[(0,.ptr 0 0),(2,scE V),(4,.rptr [int e.id.a,int e.id.b,int e.id.c,int e.k,int e.n,int e.ref.a,int e.ref.b,int e.ref.c,int e.typ.k,int e.typ.id.a,int e.typ.id.b,int e.typ.id.c,.sl e.typ.kids.length (jB e.typ.kids),.sl e.kids.length (qL e.kids),.sl e.names.length (jY e.names)]),(6,.ptr 1 0)]) (σ':=eS p F s++[.box [int 0,int 0,.nil]]) [0,2] 1 (by decide) (by simp) (by simp[eS,hP]) (by simp[eS,hP,zF]),?_⟩;simp[eS,hP,zF,hks,h15];refine zDh (ha.pan hf) [0] (by decide) (by simp[eS,hP]) (by simp[zF]) fun τ=>?_
  simp
theorem zX0 {vs:List Val}{s1:XS}(hk:e.k=7)(hl:vs.length=e.kids.length)(ha:AlE p F e V s (vs,s1)):VaE p F e V s (.mk 2 0 vs,s1):=by
 have hP:=eP p;constructor
 ·intro hf;refine zH Tryz.func140 rfl zFp (rs:=[.cell 6 3 true]) (by kernel_rfl) ?_;unfold zFe;simp[eS,hP,zF,hk];refine zN (ha.ret hf) [0] (by decide) (by simp[eS,hP]) (by simp) ?_;simp[eS,hP,zI];exact zG [0] 0 (by decide) (by simp) (by simp) (by simp[zI,qG,zY,zM,hl])
 ·intro hf;refine yZ Tryz.func140 rfl zFp (rs:=[.cell 6 3 true]) (by kernel_rfl) ?_;unfold zFe wpF;simp[eS,hP,zF,hk];refine zHh (ha.pan hf) [0] (by decide) (by simp[eS,hP]) (by simp) fun τ=>?_
  simp
theorem zUR {vs:List Val}{s1:XS}(hk:e.k=11)(hl:vs.length=e.kids.length)(ha:AlE p F e V s (vs,s1)):VaE p F e V s (.mk 4 0 vs,s1):=by
 have hP:=eP p;constructor
 ·intro hf;refine zH Tryz.func140 rfl zFp (rs:=[.cell 6 3 true]) (by kernel_rfl) ?_;unfold zFe;simp[eS,hP,zF,hk];refine zN (ha.ret hf) [0] (by decide) (by simp[eS,hP]) (by simp) ?_;simp[eS,hP,zI];exact zG [0] 0 (by decide) (by simp) (by simp) (by simp[zI,qG,zY,zM,hl])
 ·intro hf;refine yZ Tryz.func140 rfl zFp (rs:=[.cell 6 3 true]) (by kernel_rfl) ?_;unfold zFe wpF;simp[eS,hP,zF,hk];refine zHh (ha.pan hf) [0] (by decide) (by simp[eS,hP]) (by simp) fun τ=>?_
  simp
theorem zUQ {vs:List Val}{s1:XS}(hk:e.k=9)(hl:vs.length=e.kids.length)(ha:AlE p F e V s (vs,s1)):VaE p F e V s (.mk 3 e.n vs,s1):=by
 have hP:=eP p;constructor
 ·intro hf;refine zH Tryz.func140 rfl zFp (rs:=[.cell 6 3 true]) (by kernel_rfl) ?_;unfold zFe;simp[eS,hP,zF,hk];refine⟨_,_,zS (l:=[(0,.ptr 0 0),(2,scE V),(4,.rptr [int e.id.a,int e.id.b,int e.id.c,int e.k,int e.n,int e.ref.a,int e.ref.b,int e.ref.c,int e.typ.k,int e.typ.id.a,int e.typ.id.b,int e.typ.id.c,.sl e.typ.kids.length (jB e.typ.kids),.sl e.kids.length (qL e.kids),.sl e.names.length (jY e.names)]),(6,.ptr 1 0)]) (σ':=eS p F s++[.box [int 0,int 0,.nil]]) [0,2] 1 (by decide) (by simp) (by simp[eS,hP]) (by simp[eS,hP,zF,hk]),?_⟩;simp[eS,hP,zF,hk];refine zBT (ha.ret hf) [0] (by decide) (by simp[eS,hP]) (by simp) ?_;simp[eS,hP,zI];exact zG [0] 0 (by decide) (by simp) (by simp) (by simp[zI,qG,zY,zM,hl])
 ·intro hf;refine yZ Tryz.func140 rfl zFp (rs:=[.cell 6 3 true]) (by kernel_rfl) ?_;unfold zFe wpF;simp[eS,hP,zF,hk];refine⟨_,_,zS (l:=[(0,.ptr 0 0),(2,scE V),(4,.rptr [int e.id.a,int e.id.b,int e.id.c,int e.k,int e.n,int e.ref.a,int e.ref.b,int e.ref.c,int e.typ.k,int e.typ.id.a,int e.typ.id.b,int e.typ.id.c,.sl e.typ.kids.length (jB e.typ.kids),.sl e.kids.length (qL e.kids),.sl e.names.length (jY e.names)]),(6,.ptr 1 0)]) (σ':=eS p F s++[.box [int 0,int 0,.nil]]) [0,2] 1 (by decide) (by simp) (by simp[eS,hP]) (by simp[eS,hP,zF,hk]),?_⟩;simp[eS,hP,zF,hk];refine zDh (ha.pan hf) [0] (by decide) (by simp[eS,hP]) (by simp) fun τ=>?_
  simp
theorem qBA {ts:List Typ}{t:Typ}{vs:List Val}{s1:XS}(hk:e.k=4)(ho:s1.fail=0→OpT e.n ts t∧TyL p ts vs∧∀v∈vs,qH v≤256)(hl:vs.length=e.kids.length)(ha:AlE p F e V s (vs,s1)):VaE p F e V s (opV e.n vs,s1):=by
 have hP:=eP p;constructor
 ·intro hf;obtain⟨ho,hv,hs⟩:=ho hf;have hop:=zUK ho hv hs;generalize opV e.n vs=r at *
  refine zH Tryz.func140 rfl zFp (rs:=[.cell 6 3 true]) (by kernel_rfl) ?_;unfold zFe;simp[eS,hP,zF,hk];refine⟨_,_,zS (l:=[(0,.ptr 0 0),(2,scE V),(4,.rptr [int e.id.a,int e.id.b,int e.id.c,int e.k,int e.n,int e.ref.a,int e.ref.b,int e.ref.c,int e.typ.k,int e.typ.id.a,int e.typ.id.b,int e.typ.id.c,.sl e.typ.kids.length (jB e.typ.kids),.sl e.kids.length (qL e.kids),.sl e.names.length (jY e.names)]),(6,.ptr 1 0)]) (σ':=eS p F s++[.box [int 0,int 0,.nil]]) [0,2] 1 (by decide) (by simp) (by simp[eS,hP]) (by simp[eS,hP,zF,hk]),?_⟩;simp[eS,hP,zF,hk];refine zBT (ha.ret hf) [0] (by decide) (by simp[eS,hP]) (by simp) ?_;simp[eS,hP];refine qE hop (by simp[hl]) (by simp[zI]) ?_;simp[eS,hP,zI];exact zG [0] 0 (by decide) (by simp) (by simp) (by simp[zI,qG,zY,zM])
 ·intro hf;refine yZ Tryz.func140 rfl zFp (rs:=[.cell 6 3 true]) (by kernel_rfl) ?_;unfold zFe wpF;simp[eS,hP,zF,hk];refine⟨_,_,zS (l:=[(0,.ptr 0 0),(2,scE V),(4,.rptr [int e.id.a,int e.id.b,int e.id.c,int e.k,int e.n,int e.ref.a,int e.ref.b,int e.ref.c,int e.typ.k,int e.typ.id.a,int e.typ.id.b,int e.typ.id.c,.sl e.typ.kids.length (jB e.typ.kids),.sl e.kids.length (qL e.kids),.sl e.names.length (jY e.names)]),(6,.ptr 1 0)]) (σ':=eS p F s++[.box [int 0,int 0,.nil]]) [0,2] 1 (by decide) (by simp) (by simp[eS,hP]) (by simp[eS,hP,zF,hk]),?_⟩;simp[eS,hP,zF,hk];refine zDh (ha.pan hf) [0] (by decide) (by simp[eS,hP]) (by simp) fun τ=>?_
  simp
theorem zUP {d:Dfn}{vs:List Val}{s1:XS}{r:Val×XS}(hk:e.k=3)(hd:yC p.defs e.ref=some d)(hl:vs.length=e.kids.length)(ha:AlE p F e V s (vs,s1))
 (hb:s1.fail=0→RP 68 [.ptr 0 0,.agg (zP d),.sl vs.length (zV vs)] p F s1 (.agg (zI r.1)) r.2)(hx:s1.fail≠0→r.2=s1):VaE p F e V s r:=by
 have hP:=eP p;by_cases h1:s1.fail=0
 ·have hb:=hb h1;have ha:=ha.ret h1;rw[hl]at hb;constructor
  ·intro hf;refine zH Tryz.func140 rfl zFp (rs:=[.cell 6 3 true]) (by kernel_rfl) ?_;unfold zFe;simp[eS,hP,zF,hk];refine zA3 (zE3 p e.ref) (by simp[zU,qX]) (by simp[zAL]) ?_;simp[zAL,hd,zP];refine⟨_,_,zS (l:=[(0,.ptr 0 0),(2,scE V),(4,.rptr [int e.id.a,int e.id.b,int e.id.c,int e.k,int e.n,int e.ref.a,int e.ref.b,int e.ref.c,int e.typ.k,int e.typ.id.a,int e.typ.id.b,int e.typ.id.c,.sl e.typ.kids.length (jB e.typ.kids),.sl e.kids.length (qL e.kids),.sl e.names.length (jY e.names)]),(6,.ptr 1 0),(7,.rptr (zP d))]) (σ':=eS p F s++[.box [int 0,int 0,.nil]]) [0,2] 1 (by decide) (by simp) (by simp[eS,hP]) (by simp[eS,hP,zF,zP,hk]),?_⟩;simp[eS,hP,zF,zP,hk];refine zBT ha [0] (by decide) (by simp[eS,hP]) (by simp) ?_;simp[eS,hP];refine zBT (hb.ret hf) [0] (by decide) (by simp[eS,hP]) (by simp[zP]) ?_;simp[eS,hP,zI];exact zG [0] 0 (by decide) (by simp) (by simp) (by simp[zI,qG,zY,zM])
  ·intro hf;refine yZ Tryz.func140 rfl zFp (rs:=[.cell 6 3 true]) (by kernel_rfl) ?_;unfold zFe wpF;simp[eS,hP,zF,hk];refine zA3 (zE3 p e.ref) (by simp[zU,qX]) (by simp[zAL]) ?_;simp[zAL,hd,zP];refine⟨_,_,zS (l:=[(0,.ptr 0 0),(2,scE V),(4,.rptr [int e.id.a,int e.id.b,int e.id.c,int e.k,int e.n,int e.ref.a,int e.ref.b,int e.ref.c,int e.typ.k,int e.typ.id.a,int e.typ.id.b,int e.typ.id.c,.sl e.typ.kids.length (jB e.typ.kids),.sl e.kids.length (qL e.kids),.sl e.names.length (jY e.names)]),(6,.ptr 1 0),(7,.rptr (zP d))]) (σ':=eS p F s++[.box [int 0,int 0,.nil]]) [0,2] 1 (by decide) (by simp) (by simp[eS,hP]) (by simp[eS,hP,zF,zP,hk]),?_⟩;simp[eS,hP,zF,zP,hk];refine zBT ha [0] (by decide) (by simp[eS,hP]) (by simp) ?_;simp[eS,hP];refine zDh (hb.pan hf) [0] (by decide) (by simp[eS,hP]) (by simp[zP]) fun τ=>?_
   simp
 ·unfold VaE;rw[hx h1];refine⟨fun hf=>(h1 hf).elim,fun hf=>?_⟩;refine yZ Tryz.func140 rfl zFp (rs:=[.cell 6 3 true]) (by kernel_rfl) ?_;unfold zFe wpF;simp[eS,hP,zF,hk];refine zA3 (zE3 p e.ref) (by simp[zU,qX]) (by simp[zAL]) ?_;simp[zAL,hd,zP];refine⟨_,_,zS (l:=[(0,.ptr 0 0),(2,scE V),(4,.rptr [int e.id.a,int e.id.b,int e.id.c,int e.k,int e.n,int e.ref.a,int e.ref.b,int e.ref.c,int e.typ.k,int e.typ.id.a,int e.typ.id.b,int e.typ.id.c,.sl e.typ.kids.length (jB e.typ.kids),.sl e.kids.length (qL e.kids),.sl e.names.length (jY e.names)]),(6,.ptr 1 0),(7,.rptr (zP d))]) (σ':=eS p F s++[.box [int 0,int 0,.nil]]) [0,2] 1 (by decide) (by simp) (by simp[eS,hP]) (by simp[eS,hP,zF,zP,hk]),?_⟩;simp[eS,hP,zF,zP,hk];refine zDh (ha.pan hf) [0] (by decide) (by simp[eS,hP]) (by simp) fun τ=>?_
  simp
end
section
variable {p:Prg}{F:Int}{c:Nat}{m:Int}{ev:Evl}{e:Exp}{V:List EVar}{s:XS}
@[simp] theorem qNR:zA Tryz.prog 158=true:=by kernel_rfl
section
variable {A:List Val×XS}(hA:Ret Tryz.prog 175 [.ptr 0 0,.sl e.kids.length (qL e.kids),.sl V.length (zCF V)] (uS p F s) (.sl A.1.length (zV A.1)) (uS p F A.2))
include hA
end
end
section
variable {p:Prg}{c:Nat}{m:Int}{ev:Evl}{e:Exp}{V:List EVar}{s:XS}
@[simp] theorem qOj:zA Tryz.prog 102=true:=by kernel_rfl
end
def zR9 (d:Dfn)(L:List Id):List Id:=if d.id∈L then namS d.slots L else L
theorem RS.namS {p:Prg}{hs:List Hd}(hf:Fit p hs){ss:List Slt}(h:∀s∈ss,TyOk hs 4 s.typ){L:List Id}(hL:RS p L):RS p (namS ss L) :=
 RS.fold (fun(s:Slt) L=>zOr s.typ L) ss L (fun s hs' L hL=>hL.nam hf (h s hs')) hL
theorem RS.turn {p:Prg}{hs:List Hd}(hf:Fit p hs){d:Dfn}(hd:d∈p.defs){L:List Id}(hL:RS p L):RS p (zR9 d L):=by
 unfold zR9;split
 ·exact hL.namS hf (hf.slots d hd).2.2.2.2
 ·exact hL
theorem RS.rnd {p:Prg}{hs:List Hd}(hf:Fit p hs){ds:List Dfn}(hd:∀d∈ds,d∈p.defs){L:List Id}(hL:RS p L):RS p (ds.foldl (fun L d=>zR9 d L) L) :=
 RS.fold zR9 ds L (fun d hd' L hL=>hL.turn hf (hd d hd')) hL
@[simp] theorem qN3:zA Tryz.prog 50=true:=by kernel_rfl
structure RelX (k:Int)(s s':XS):Prop where
 fuel:s'.fuel=s.fuel-k
 fail:s'.fail=s.fail
 ds:s'.ds=s.ds
 ns:s'.ns=s.ns
def zCK (s' s:XS):Prop:=(∀x∈s'.ds,x∈s.ds)∧∀x∈s'.ns,x∈s.ns
theorem zCK.rfl' (s:XS):zCK s s:=⟨fun _ h=>h,fun _ h=>h⟩
theorem zCK.trans {a b c:XS}(h:zCK a b)(k:zCK b c):zCK a c:=⟨fun x hx=>k.1 x (h.1 x hx),fun x hx=>k.2 x (h.2 x hx)⟩
theorem RelX.sub {k:Int}{s s':XS}(h:RelX k s s'):zCK s' s:=⟨fun x hx=>by rw[←h.ds]; exact hx,fun x hx=>by rw[←h.ns]; exact hx⟩
theorem zOT (s:XS):InvX (zCK s) :=
 ⟨fun e t h _=>⟨h.1,fun x hx=>List.mem_append_left _ (h.2 x hx)⟩,fun d t h=>⟨fun x hx=>List.mem_append_left _ (h.1 x hx),h.2⟩,fun x t h=>h⟩
def Grow (ev:Evl):Prop:=∀e V s,zCK s (ev e V s).2
theorem zF9 (p:Prg)(fl n:Nat):Grow (zAs p fl n):=fun e V s=>zDs (zOT s) fl n e V s (zCK.rfl' s)
def zJt {α : Type}(k:Int)(r r' : α×XS):Prop:=(RelX k r.2 r'.2∧r'.1=r.1)∨(r'.2.fail≠0∧zCK r'.2 r.2)
def zRF (k:Int)(ev ev':Evl):Prop:=∀e V s s',RelX k s s'→zJt k (ev e V s) (ev' e V s')
theorem zJt.grow {α : Type}{k:Int}{r r' : α×XS}{t : α}{s:XS}(h:r'.2.fail≠0∧zCK r'.2 r.2)(hs:zCK r.2 s):zJt k (t,s) r':=.inr ⟨h.1,h.2.trans hs⟩
section
variable {p:Prg}{k:Int}{ev ev':Evl}
theorem Grow.all (hg:Grow ev)(V:List EVar)(l:List Exp)(s:XS):zCK s (qK ev V l s).2:=zFn (I:=zCK s) (fun e V t ht=>ht.trans (hg e V t)) V l s (zCK.rfl' s)
theorem Grow.fold (hg:Grow ev)(V:List EVar)(i:Id)(b:Exp)(l:List Val)(r:Val×XS):zCK r.2 (jR ev V i b l r).2:=zFZ (I:=zCK r.2) (fun e V t ht=>ht.trans (hg e V t)) V i b l r (zCK.rfl' r.2)
theorem Grow.body (hg:Grow ev)(d:Dfn)(vs:List Val)(s:XS):zCK s (zA6 ev d vs s).2:=zFT (I:=zCK s) (zOT s) (fun e V t ht=>ht.trans (hg e V t)) d vs s (zCK.rfl' s)
theorem zNu (h:zRF k ev ev')(hs:zFf ev')(hg:Grow ev)(V:List EVar):∀(l:List Exp) (s s':XS),RelX k s s'→zJt k (qK ev V l s) (qK ev' V l s')
 | [],s,s',hr=>.inl ⟨hr,rfl⟩
 | e::l,s,s',hr=>by
  simp only[qK];rcases h e V s s' hr with ⟨h1,h2⟩ | ⟨h1,h2⟩
  ·rcases zNu h hs hg V l _ _ h1 with ⟨h3,h4⟩ | h3
   ·exact .inl ⟨h3,by rw[h2,h4]⟩
   ·exact .inr h3
  ·have hst:=zEe hs V l _ h1;refine .inr ⟨by simp only; rw[hst]; exact h1,?_⟩;simp only;rw[hst];exact h2.trans (hg.all V l _)
theorem zLN (h:zRF k ev ev')(hs:zFf ev')(hg:Grow ev)(V:List EVar)(i:Id)(b:Exp):∀(l:List Val) (r r':Val×XS),zJt k r r'→zJt k (jR ev V i b l r) (jR ev' V i b l r')
 | [],r,r',hr=>hr
 | x::l,r,r',hr=>by
  rcases hr with ⟨h1,h2⟩ | ⟨h1,h2⟩
  ·simp only[jR];rw[h2];exact zLN h hs hg V i b l _ _ (h _ _ _ _ h1)
  ·have hst:=zC5 hs V i b (x::l) r' h1;refine .inr ⟨by rw[hst]; exact h1,?_⟩;rw[hst];exact h2.trans (hg.fold V i b (x::l) r)
theorem zL7 (h:zRF k ev ev')(d:Dfn)(vs:List Val){s s':XS}(hr:RelX k s s'):zJt k (zA6 ev d vs s) (zA6 ev' d vs s'):=by
 unfold zA6;rw[hr.fail];split
 ·exact .inl ⟨hr,rfl⟩
 ·exact h _ _ _ _ ⟨hr.fuel,rfl,by simp only; rw[hr.ds],hr.ns⟩
theorem zN0 (h:zRF k ev ev')(hs:zFf ev')(hg:Grow ev)(e:Exp)(V:List EVar){s s':XS}(hr:RelX k s s'):zJt k (jA ev e V s) (jA ev' e V s'):=by
 rcases h (e.kids.headD .zero) V s s' hr with ⟨h1,h2⟩ | ⟨h1,h2⟩
 ·unfold jA;rw[h2,h1.fail];generalize (ev (e.kids.headD .zero) V s).1=v at *
  by_cases c0:(ev (e.kids.headD .zero) V s).2.fail≠0
  ·rw[if_pos c0,if_pos c0]; exact .inl ⟨h1,rfl⟩
  rw[if_neg c0,if_neg c0];by_cases c1:e.k=5
  ·rw[if_pos c1,if_pos c1]; exact h _ _ _ _ h1
  rw[if_neg c1,if_neg c1];by_cases c2:e.k=6
  ·rw[if_pos c2,if_pos c2]; exact h _ _ _ _ h1
  rw[if_neg c2,if_neg c2];by_cases c3:e.k=8
  ·rw[if_pos c3,if_pos c3]; exact .inl ⟨h1,rfl⟩
  rw[if_neg c3,if_neg c3];by_cases c4:e.k=10
  ·rw[if_pos c4,if_pos c4]; exact h _ _ _ _ h1
  rw[if_neg c4,if_neg c4];exact zLN h hs hg _ _ _ _ _ _ (h _ _ _ _ h1)
 ·have hx:(jA ev' e V s').2=(ev' (e.kids.headD .zero) V s').2:=by unfold jA; rw[if_pos h1]
  have hgr:zCK (ev (e.kids.headD .zero) V s).2 (jA ev e V s).2:=by
   unfold jA;generalize ev (e.kids.headD .zero) V s=r at *
   repeat' split
   all_goals first
    | exact zCK.rfl' _
    | exact hg _ _ _
    | exact(hg _ _ _).trans (hg.fold _ _ _ _ _)
  exact .inr ⟨by rw[hx]; exact h1,by rw[hx]; exact h2.trans hgr⟩
theorem zWt {c:Bool}{s s':XS}{v v':Val}(hf:s'.fail=s.fail)(hv:v'=v):zf c s' v'=zf c s v:=by unfold zf; rw[hf,hv]
theorem zQy (h:zRF k ev ev')(hs:zFf ev')(hg:Grow ev)(fl:Nat)(e:Exp)(V:List EVar){s s':XS}(hr:RelX k s s'):zJt k (qJ p fl ev e V s) (qJ p fl ev' e V s'):=by
 have ha:=zNu h hs hg V e.kids s s' hr;unfold qJ;by_cases c0:e.k=0
 ·rw[if_pos c0,if_pos c0]; exact .inl ⟨hr,rfl⟩
 rw[if_neg c0,if_neg c0];by_cases c1:e.k=1
 ·rw[if_pos c1,if_pos c1]; exact .inl ⟨hr,rfl⟩
 rw[if_neg c1,if_neg c1];by_cases c2:e.k=2
 ·rw[if_pos c2,if_pos c2]; exact .inl ⟨hr,rfl⟩
 rw[if_neg c2,if_neg c2];by_cases c3:e.k=5∨e.k=6∨e.k=8∨e.k=10∨e.k=12
 ·rw[if_pos c3,if_pos c3]; exact zN0 h hs hg e V hr
 rw[if_neg c3,if_neg c3];by_cases c4:e.k=3
 ·rw[if_pos c4,if_pos c4];rcases ha with ⟨h1,h2⟩ | ⟨h1,h2⟩
  ·rw[h2]; exact zL7 h _ _ h1
  ·have hx:(zA6 ev' (dfn p e.ref) (qK ev' V e.kids s').1 (qK ev' V e.kids s').2).2=(qK ev' V e.kids s').2:=by unfold zA6; rw[if_pos h1]
   exact .inr ⟨by rw[hx]; exact h1,by rw[hx]; exact h2.trans (hg.body _ _ _)⟩
 rw[if_neg c4,if_neg c4];have rest:∀(c:Bool) (g:List Val→Val),zJt k (zf c (qK ev V e.kids s).2 (g (qK ev V e.kids s).1),(qK ev V e.kids s).2) (zf c (qK ev' V e.kids s').2 (g (qK ev' V e.kids s').1),(qK ev' V e.kids s').2):=fun c g=>by
  rcases ha with ⟨h1,h2⟩ | h1
  ·exact .inl ⟨h1,zWt h1.fail (by rw[h2])⟩
  ·exact .inr h1
 by_cases c5:e.k=4
 ·rw[if_pos c5,if_pos c5]; exact rest _ _
 rw[if_neg c5,if_neg c5];by_cases c6:e.k=7
 ·rw[if_pos c6,if_pos c6]; exact rest _ fun l=>.mk 2 0 l
 rw[if_neg c6,if_neg c6];by_cases c7:e.k=9
 ·rw[if_pos c7,if_pos c7]; exact rest _ fun l=>.mk 3 e.n l
 rw[if_neg c7,if_neg c7];exact rest _ fun l=>.mk 4 0 l
theorem zU9 (fl:Nat){r r':Val×XS}(h:zJt k r r'):zJt k (zLs fl r) (zLs fl r'):=by
 have hd:∀q:Val×XS,(zB8 q).ds=q.2.ds∧(zB8 q).ns=q.2.ns:=fun q=>by unfold zB8; split<;>exact⟨rfl,rfl⟩
 rcases h with ⟨h1,h2⟩ | ⟨h1,h2⟩
 ·have hl:RelX k (zB8 r) (zB8 r'):=by
   unfold zB8;rw[h1.fail,h2];split
   ·exact⟨h1.fuel,rfl,h1.ds,h1.ns⟩
   ·exact h1
  exact .inl ⟨hl,zWt hl.fail h2⟩
 ·have hl:zB8 r'=r'.2:=by unfold zB8; rw[if_neg fun h=>h1 h.1]
  refine .inr ⟨by show (zB8 r').fail≠0; rw[hl]; exact h1,?_⟩;show zCK (zB8 r') (zB8 r);rw[hl];exact⟨fun x hx=>by rw[(hd r).1]; exact h2.1 x hx,fun x hx=>by rw[(hd r).2]; exact h2.2 x hx⟩
theorem zMi (hk:0≤k)(fl j:Nat):∀n:Nat,zRF k (zAs p fl (n+j)) (zAs p fl n)
 | 0,e,V,s,s',hr=>by
  have hgr:=zF9 p fl (0+j) e V s;by_cases hf:s.fail≠0
  ·have hf':s'.fail≠0:=by rw[hr.fail]; exact hf
   rw[zAN p fl (0+j) e V s hf,zAN p fl 0 e V s' hf'];exact .inl ⟨hr,rfl⟩
  ·have hf':¬s'.fail≠0:=by rw[hr.fail]; exact hf
   have hx:zAs p fl 0 e V s'=(vz,{s' with fail:=zFv}):=by rw[zAs,if_neg hf']
   rw[hx];exact .inr ⟨show zFv≠0 by decide,hr.sub.trans hgr⟩
 | n+1,e,V,s,s',hr=>by
  have hgr:=zF9 p fl (n+1+j) e V s;by_cases hf:s.fail≠0
  ·have hf':s'.fail≠0:=by rw[hr.fail]; exact hf
   rw[zAN p fl _ e V s hf,zAN p fl _ e V s' hf'];exact .inl ⟨hr,rfl⟩
  ·have hf':¬s'.fail≠0:=by rw[hr.fail]; exact hf
   by_cases hu:s'.fuel≤0
   ·have hx:zAs p fl (n+1) e V s'=(vz,{s' with fail:=zFv}):=by rw[zAs,if_neg hf',if_pos hu]
    rw[hx];exact .inr ⟨show zFv≠0 by decide,hr.sub.trans hgr⟩
   ·have hu0:¬s.fuel≤0:=by have:=hr.fuel; omega
    have hn:n+1+j=(n+j)+1:=by omega
    rw[hn,zAs,zAs,if_neg hf,if_neg hf',if_neg hu,if_neg hu0];exact zU9 fl (zQy (zMi hk fl j n) (zAN p fl n) (zF9 p fl (n+j)) fl e V
     ⟨by show s'.fuel-1=s.fuel-1-k; have:=hr.fuel; omega,hr.fail,hr.ds,by show s'.ns++[e.id]=s.ns++[e.id]; rw[hr.ns]⟩)
end
theorem zQQ (C:Int):InvX (fun s=>s.ns.length+s.fuel=C) :=
 ⟨fun e s h hf=>by unfold zD4; simp only[List.length_append,List.length_singleton]; have:(s.ns.length:Int)+s.fuel=C:=h; omega,fun d s h=>h,fun x s h=>h⟩
theorem zOG (p:Prg)(d:Dfn)(vs:List Val)(fuel:Int):((zBI p d vs fuel).2.ns.length:Int)+(zBI p d vs fuel).2.fuel=fuel :=
 zFT (zQQ fuel) (zDs (zQQ fuel) 1 _) d vs _ (by simp)
theorem zYq (p:Prg)(d:Dfn)(vs:List Val)(fuel:Int)(h:0≤fuel):0≤(zBI p d vs fuel).2.fuel :=
 (zFT (zKj fuel) (zDs (zKj fuel) 1 _) d vs _ ⟨h,Int.le_refl _⟩:Fu fuel (zBI p d vs fuel).2).1
theorem zVQ (p:Prg)(d:Dfn)(vs:List Val){f g:Int}(hf:0≤f)(hg:f≤g):zCK (zBI p d vs f).2 (zBI p d vs g).2:=by
 have hn:g.toNat=f.toNat+(g-f).toNat:=by omega
 have h:=zL7 (zMi (p:=p) (k:=g-f) (by omega) 1 (g-f).toNat f.toNat) d vs (s:=⟨g,0,zBw p d.slots [],[]⟩) (s':=⟨f,0,zBw p d.slots [],[]⟩) ⟨by simp only; omega,rfl,rfl,rfl⟩;unfold zBI;rw[hn];rcases h with ⟨h1,_⟩ | ⟨_,h1⟩
 ·exact h1.sub
 ·exact h1
theorem RP.congr {f:FuncId}{args:List A}{p:Prg}{F:Int}{s s':XS}{r r':A}(h:RP f args p F s r s')(hr:s'.fail=0→r=r'):RP f args p F s r' s' :=
 ⟨fun hf=>by rw[←hr hf]; exact h.ret hf,h.pan⟩
section
variable {p:Prg}{F m:Int}{ev:Evl}{B:List Bnd}{e:Exp}{t:Typ}{V:List EVar}{s:XS}
def zTm:K:=G [kO 4 1,kZ 6 [ki,ki,kl]] (Z (Z (K.dops [(0,0,M 8 0),(1,0,kU 9 8),(2,0,D 10 9 3),(3,0,L 11 10 1),(4,0,M 12 0),(5,0,kU 13 12),(6,0,D 14 13 2),(7,0,L 15 14 1),(8,0,kB 16 11 15 .geq)]) (Y 16 (K.ops [⟨none,.mki (some 17) 51 (kc 18)⟩,⟨none,.pan none (kt 17)⟩]) ks)) (G [M 18 0,kU 19 18,D 20 19 3,L 21 20 1,kBi 22 21 1 .add,kU 23 18,D 24 23 3,S 24 22 1] (G [M 25 0,J 26 4 15,M 27 2,kC 28 140 [(kt 25),(kt 26),(kt 27)],kZ 7 [ki,ki,kl],S 7 28 3] (Z (G [J 29 7 3,kC 30 130 [(kt 29)],kBi 31 30 256 .gtr,M 32 31,T 32 false (J 33 7 3),T 32 false (kC 34 141 [(kt 33)]),T 32 false (kBi 35 34 24 .gtr),kPt 36 32 35] (Y 36 (K.ops [⟨none,.mki (some 37) 51 (kc 4)⟩,⟨none,.pan none (kt 37)⟩]) ks)) (G [J 38 7 3,S 6 38 3] kr)))))
theorem zWB:zL Tryz.prog Tryz.f115.ntmps (Tryz.f115.body.getD .skip)=some zTm.erase:=by kernel_rfl
@[simp] theorem qMS:zA Tryz.prog 115=true:=by kernel_rfl
theorem zLF (hu:s.fuel≤0):zLj p F e V s (vz,{s with fail:=zFv}):=by
 have hP:=eP p;refine⟨fun hf=>absurd (show zFv=0 from hf) (by decide),fun _=>?_⟩;have hc:F≤F-s.fuel:=by omega
 refine zEm Tryz.func115 rfl zWB (rs:=[.cell 6 3 true]) (by kernel_rfl) ?_;unfold zTm wpF;simp[eS,hP,zF,hc]
set_option maxHeartbeats 1000000 in
theorem zUA {r:Val×XS}(hF:F≤1000000)(hs:s.fail=0)(hu:¬s.fuel≤0)(hB:Fu F s)(hv:VaE p F e V (zD4 e s) r):zLj p F e V s (zLs 1 r):=by
 have hP:=eP p;obtain⟨b1,b2⟩:=hB;have hc:¬F≤F-s.fuel:=by omega
 have hw:IntKind.i64.wrap (F-s.fuel+1)=F-(s.fuel-1):=by rw[IntWalk.i64_in _ (by omega)]; omega
 have he:zLs 1 r=(r.1,zB8 r):=by simp[zLs,zf]
 have ht:(zD4 e s).fuel=s.fuel-1:=rfl;rw[he];by_cases h0:r.2.fail=0
 ·have hv:=hv.ret h0;by_cases hbig:zPm r.1
  ·have hl:zB8 r={r.2 with fail:=zFw}:=by unfold zB8; rw[if_pos ⟨h0,hbig⟩]
   rw[hl];refine⟨fun hf=>absurd (show zFw=0 from hf) (by decide),fun _=>?_⟩;refine zEm Tryz.func115 rfl zWB (rs:=[.cell 6 3 true]) (by kernel_rfl) ?_;unfold zTm wpF;simp[eS,hP,zF,hc,hw];refine zN hv [0] (by decide) (by simp[eS,hP,ht]) (by simp[zF]) ?_;simp[eS,hP,zI];refine zR (zJA r.1) (by simp[zI]) (by simp) ?_;by_cases h1:256<zDc r.1
   ·simp[h1]
   ·have h2:24<zB5 r.1:=hbig.resolve_left h1;simp[h1];refine zR (zIh r.1) (by simp[zI]) (by simp) ?_;simp[h2]
  ·have hl:zB8 r=r.2:=by unfold zB8; rw[if_neg fun h=>hbig h.2]
   have h1:¬256<zDc r.1:=fun h=>hbig (.inl h)
   have h2:¬24<zB5 r.1:=fun h=>hbig (.inr h)
   rw[hl];refine⟨fun _=>?_,fun hf=>(hf h0).elim⟩;refine zK Tryz.func115 rfl zWB (rs:=[.cell 6 3 true]) (by kernel_rfl) ?_;unfold zTm;simp[eS,hP,zF,hc,hw];refine zN hv [0] (by decide) (by simp[eS,hP,ht]) (by simp[zF]) ?_;simp[eS,hP,zI];refine zR (zJA r.1) (by simp[zI]) (by simp) ?_;simp[h1];refine zR (zIh r.1) (by simp[zI]) (by simp) ?_;simp[h2];exact zG [0] 0 (by decide) (by simp) (by simp) (by simp[zI])
 ·have hl:zB8 r=r.2:=by unfold zB8; rw[if_neg fun h=>h0 h.1]
  rw[hl];refine⟨fun hf=>(h0 hf).elim,fun _=>?_⟩;refine zEm Tryz.func115 rfl zWB (rs:=[.cell 6 3 true]) (by kernel_rfl) ?_;unfold zTm wpF;simp[eS,hP,zF,hc,hw];refine zHh (hv.pan h0) [0] (by decide) (by simp[eS,hP,ht]) (by simp[zF]) fun τ=>?_
  simp
theorem zJY (h:IhE p F m ev){a:Exp}{ks:List Exp}{u:Typ}(hk:e.k=5∨e.k=6∨e.k=8∨e.k=10∨e.k=12)(hks:e.kids=a::ks)(ha:WE p B a u)(hV:EnvT p B V)(hN:NdV V)(hs:s.fail=0)(hB:Fu m s)
 (hb:∀v s1,s1.fail=0→Fu m s1→TyV p u v∧qH v≤256→BrE p F e V v s1 (zA2 ev e V v s1)):VaE p F e V s (jA ev e V s):=by
 have hh:e.kids.headD .zero=a:=by rw[hks]; rfl
 refine qB9 hk hks (h.ok a V s hs (.of ha hV hN) hB) (fun h1=>?_) fun h1=>?_
 ·rw[zRK (by rw[hh]; exact h1),hh];exact hb _ _ h1 (h.fu a V s hB) (h.snd a B V s u ha hV h1)
 ·unfold jA;rw[hh,if_pos h1]
set_option maxHeartbeats 1000000 in
theorem zSf (hp:zPf p)(hsl:zTE p)(h:IhE p F m ev)(he:WE p B e t)(hV:EnvT p B V)(hN:NdV V)(hs:s.fail=0)(hB:Fu m s):VaE p F e V s (qJ p 1 ev e V s):=by
 cases he with
 | int _ i n r u ns h1 h2=>exact zXz hs rfl
 | bool _ i n r u ns h1=>exact zUO hs rfl h1
 | var _ i n r u ns _ hl=>exact zX1 hs rfl
 | call _ i n r u ks ns hn d hd hk hl hw =>
  have e1:qJ p 1 ev (.mk i 3 n r u ks ns) V s=zA6 ev d (qK ev V ks s).1 (qK ev V ks s).2:=by simp[qJ,dfn,hd]
  rw[e1];have hdm:=(zAC hd).1;have hal:=zHo h V ks hn hs (fun k hk s=>by obtain⟨j,hj,rfl⟩:=List.getElem_of_mem hk; exact .of (hw j hj) hV hN) hB;have hll:=zBN ev V ks s;refine zUP (e:=.mk i 3 n r u ks ns) (vs:=(qK ev V ks s).1) (s1:=(qK ev V ks s).2) rfl hd hll hal (fun hf=>?_) fun hf=>?_
  ·obtain⟨ht,hz⟩:=zDf h.stop h.snd hV ks _ s hl hw hf;have hlen:=ht.len;rw[List.length_map]at hlen;exact zNG h d _ hlen (hsl d hdm).1 hf (fun _=>⟨_,_,hp r d hd (by simp[zBL,hk]),EnvT.args ht hz,zJ2 (hsl d hdm).2 _ hlen⟩) (zFn h.fu V ks s hB)
  ·unfold zA6;rw[if_pos hf]
 | op _ i n r u ks ns hn ts _ ho hl hw =>
  have e1:qJ p 1 ev (.mk i 4 n r u ks ns) V s=(zf true (qK ev V ks s).2 (opV n (qK ev V ks s).1),(qK ev V ks s).2):=by simp[qJ]
  rw[e1];have hal:=zHo h V ks hn hs (fun k hk s=>by obtain⟨j,hj,rfl⟩:=List.getElem_of_mem hk; exact .of (hw j hj) hV hN) hB;refine RP.congr (qBA (e:=.mk i 4 n r u ks ns) (ts:=ts) (t:=t) (vs:=(qK ev V ks s).1) rfl (fun hf=>?_) (zBN ev V ks s) hal) fun hf=>by rw[zEx hf]; rfl
  obtain⟨ht,hz⟩:=zDf h.stop h.snd hV ks _ s hl hw hf;exact⟨ho,ht,hz⟩
 | record _ i n r u ks ns hn d hd hk hl hw =>
  have e1:qJ p 1 ev (.mk i 7 n r u ks ns) V s=(zf true (qK ev V ks s).2 (.mk 2 0 (qK ev V ks s).1),(qK ev V ks s).2):=by simp[qJ]
  rw[e1];have hal:=zHo h V ks hn hs (fun k hk s=>by obtain⟨j,hj,rfl⟩:=List.getElem_of_mem hk; exact .of (hw j hj) hV hN) hB;exact RP.congr (zX0 (e:=.mk i 7 n r u ks ns) rfl (zBN ev V ks s) hal) fun hf=>by rw[zEx hf]
 | case _ i r u a ns d j hd hk hj ha =>
  have e1:qJ p 1 ev (.mk i 9 j r u [a] ns) V s=(zf true (qK ev V [a] s).2 (.mk 3 j (qK ev V [a] s).1),(qK ev V [a] s).2):=by simp[qJ]
  rw[e1];have hal:=zHo h V [a] (by simp) hs (fun k hk s=>by rw[List.mem_singleton.1 hk]; exact .of ha hV hN) hB;exact RP.congr (zUQ (e:=.mk i 9 j r u [a] ns) rfl (zBN ev V [a] s) hal) fun hf=>by rw[zEx hf]; rfl
 | list _ i n r u ks ns t hn hw =>
  have e1:qJ p 1 ev (.mk i 11 n r u ks ns) V s=(zf true (qK ev V ks s).2 (.mk 4 0 (qK ev V ks s).1),(qK ev V ks s).2):=by simp[qJ]
  rw[e1];have hal:=zHo h V ks hn hs (fun k hk s=>by obtain⟨j,hj,rfl⟩:=List.getElem_of_mem hk; exact .of (hw j hj) hV hN) hB;exact RP.congr (zUR (e:=.mk i 11 n r u ks ns) rfl (zBN ev V ks s) hal) fun hf=>by rw[zEx hf]
 | ite _ i n r u a b c ns _ ha hb hc =>
  have e1:qJ p 1 ev (.mk i 5 n r u [a,b,c] ns) V s=jA ev (.mk i 5 n r u [a,b,c] ns) V s:=by simp[qJ]
  rw[e1];refine zJY h (.inl rfl) rfl ha hV hN hs hB fun v s1 h1 hB1 hty=>?_
  obtain⟨x,rfl,hx⟩:=hty.1.bool_inv;exact zXd hx rfl rfl (h.ok b V s1 h1 (.of hb hV hN) hB1) (h.ok c V s1 h1 (.of hc hV hN) hB1)
 | lets _ i n r u a b ns v _ hfr ha hb =>
  have e1:qJ p 1 ev (.mk i 6 n r u [a,b] ns) V s=jA ev (.mk i 6 n r u [a,b] ns) V s:=by simp[qJ]
  rw[e1];refine zJY h (.inr (.inl rfl)) rfl ha hV hN hs hB fun v s1 h1 hB1 hty=>?_
  exact zXe rfl rfl (h.ok b _ s1 h1 (.of hb (hV.push hty) (hN.push (.of (hV.ids hfr) 0))) hB1)
 | field _ i r u a ns d j hd hk hj ha =>
  have e1:qJ p 1 ev (.mk i 8 j r u [a] ns) V s=jA ev (.mk i 8 j r u [a] ns) V s:=by simp[qJ]
  rw[e1];refine zJY h (.inr (.inr (.inl rfl))) rfl ha hV hN hs hB fun v s1 h1 hB1 hty=>?_
  obtain⟨_,vs,hl,rfl,_⟩:=(hty.1.def_inv hd).resolve_right (fun h=>by omega);exact zRV rfl rfl h1 (by omega) rfl
 | mtch _ i n r u a ks ns d _ hfr hd hk hl ha hw =>
  have e1:qJ p 1 ev (.mk i 10 n r u (a::ks) ns) V s=jA ev (.mk i 10 n r u (a::ks) ns) V s:=by simp[qJ]
  rw[e1];refine zJY h (.inr (.inr (.inr (.inl rfl)))) rfl ha hV hN hs hB fun v s1 h1 hB1 hty=>?_
  obtain⟨_,q,x,hm,rfl,hxt⟩:=(hty.1.def_inv hd).resolve_left (fun h=>by omega);have hq:q<ks.length:=by omega
  exact zRW rfl rfl hq (by have:=(hsl d (zAC hd).1).1; omega) (h.ok ks[q] _ s1 h1 (.of (hw q hq) (hV.push ⟨hxt,zCs hty.2 (by simp[zM])⟩) (hN.push (.of (hV.ids hfr) q))) hB1)
 | fold _ i n r u l z b ns v _ hfr hl' hs' hb =>
  have e1:qJ p 1 ev (.mk i 12 n r u [l,z,b] ns) V s=jA ev (.mk i 12 n r u [l,z,b] ns) V s:=by simp[qJ]
  rw[e1];refine zJY h (.inr (.inr (.inr (.inr rfl)))) rfl hl' hV hN hs hB fun v s1 h1 hB1 hty=>?_
  obtain⟨vs,rfl,hvs⟩:=hty.1.list_inv;have hfv:=hV.ids hfr;have ht2:=h.snd z B V s1 _ hs' hV;refine zU0 h.stop rfl rfl (h.ok z V s1 h1 (.of hs' hV hN) hB1) fun x a s2 h2 ⟨j,hj,hx⟩=>?_
  have hxm:=List.mem_of_getElem? hx;have hty2:=zHz h.stop h.snd hV hb (vs.take j) (ev z V s1) (fun x hx=>⟨hvs x (List.mem_of_mem_take hx),zCs hty.2 (List.mem_of_mem_take hx)⟩) ht2;have hfu:=zFZ h.fu V i b (vs.take j) (ev z V s1) (h.fu z V s1 hB1);rw[show (Exp.mk i 12 n r u [l,z,b] ns).id=i from rfl]at hj;rw[hj]at hty2 hfu;exact h.ok b _ s2 h2 (.of hb ((hV.push ⟨hvs x hxm,zCs hty.2 hxm⟩).push (hty2 h2)) ((hN.push (.of hfv 0)).push (.push hfv (by decide) _))) hfu
theorem zQY (hp:zPf p)(hsl:zTE p)(hF:F≤1000000):∀n:Nat,(n:Int)≤F→IhE p F n (zAs p 1 n)
 | 0,_=>⟨zAN p 1 0,zFA hp 1 0,zDs (zKj _) 1 0,fun e V s hs hA hB=>by rw[zAs,if_neg (by simp[hs])];exact zLF hB.2⟩
 | n+1,hn=>⟨zAN p 1 (n+1),zFA hp 1 (n+1),zDs (zKj _) 1 (n+1),fun e V s hs hA hB=>by
  rw[zAs,if_neg (by simp[hs])];split
  ·rename_i hu; exact zLF hu
  ·rename_i hu;obtain⟨B,t,he,hV,hN⟩:=hA hs;obtain⟨b1,b2⟩:=hB;exact zUA hF hs hu ⟨b1,by omega⟩ (zSf hp hsl (zQY hp hsl hF n (by omega)) he hV hN (by exact hs) ⟨by show 0≤s.fuel-1; omega,by show s.fuel-1≤_; omega⟩)⟩
end
section
variable {p:Prg}{F:Int}{c:Nat}{m:Int}{ev:Evl}{e:Exp}{V:List EVar}{s:XS}
@[simp] theorem qNQ:zA Tryz.prog 137=true:=by kernel_rfl
end
end Go.Proofs.YthglhccibdlccaaGreatDoor
