/-
  eval: branches.
  trace.Call.
  The reference's evaluator: lists of nodes, bodies.
  The reference's tracer: values.
  The reference: the names in types, and what they reach.
-/
import Derived.Test.YthglhccibdlccaaGreatDoorX44
import Derived.Test.YthglhccibdlccaaGreatDoorX29
import Derived.Test.YthglhccibdlccaaGreatDoorX23
import Derived.Test.YthglhccibdlccaaGreatDoorX40
import Derived.Test.YthglhccibdlccaaGreatDoorX43
import Derived.Test.YthglhccibdlccaaGreatDoorX42
import Derived.Test.YthglhccibdlccaaGreatDoorX35
set_option linter.unusedVariables false
set_option linter.unusedSimpArgs false
namespace Go.Proofs.YthglhccibdlccaaGreatDoor
open Go.Abs
def zA2 (ev:Evl)(e:Exp)(V:List EVar)(v:Val)(s:XS):Val×XS :=
 if e.k=5 then ev (e.kids.getD (if v.n=1 then 1 else 2) .zero) V s
 else if e.k=6 then ev (e.kids.getD 1 .zero) (V++[⟨e.id,0,v⟩]) s
 else if e.k=8 then (v.kids.getD e.n.toNat vz,s)
 else if e.k=10 then ev (e.kids.getD (1+v.n).toNat .zero) (V++[⟨e.id,v.n,v.kids.headD vz⟩]) s
 else jR ev V e.id (e.kids.getD 2 .zero) v.kids (ev (e.kids.getD 1 .zero) V s)
theorem zRK {ev:Evl}{e:Exp}{V:List EVar}{s:XS}(h:(ev (e.kids.headD .zero) V s).2.fail=0):jA ev e V s=zA2 ev e V (ev (e.kids.headD .zero) V s).1 (ev (e.kids.headD .zero) V s).2:=by unfold jA zA2;rw[if_neg (fun hn=>hn h)]
section
variable {p:Prg}{F m:Int}{ev:Evl}{B:List Bnd}{e:Exp}{V:List EVar}{v:Val}{s:XS}
def zHT:K:=G [kO 5 1,kO 7 3,kZ 8 [ki,ki,kl]] (Z (G [D 12 5 3,L 13 12 1] (K.block 0 (G [kQi 15 13 5 false,M 14 15] (Y 14 (Z (G [D 16 7 1,L 17 16 1,kQi 18 17 0 true] (Y 18 (G [M 19 0,D 20 5 13,L 21 20 1,kXi 22 21 15 1,J 23 22 15,M 24 2,kC 25 115 [(kt 19),(kt 23),(kt 24)],S 8 25 3] kr) ks)) (G [M 26 0,D 27 5 13,L 28 27 1,kXi 29 28 15 2,J 30 29 15,M 31 2,kC 32 115 [(kt 26),(kt 30),(kt 31)],S 8 32 3] kr)) (G [kQi 34 13 6 false,M 33 34] (Y 33 (Z (K.dops [(0,0,M 35 0),(1,0,D 36 5 13),(2,0,L 37 36 1),(3,0,kXi 38 37 15 1),(4,0,J 39 38 15),(5,0,M 40 2),(6,0,D 41 5 0),(7,0,J 42 41 3),(8,0,J 43 7 3),(9,0,kC 44 114 [(kt 40),(kt 42),(kc 0),(kt 43)]),(10,10,kC 45 115 [(kt 35),(kt 39),(kt 44)]),(11,0,S 8 45 3)]) kr) (G [kQi 47 13 8 false,M 46 47] (Y 46 (G [D 48 7 2,L 49 48 1,D 50 5 4,L 51 50 1,kX 52 49 51 3,J 53 52 3,S 8 53 3] kr) (G [kQi 55 13 10 false,M 54 55] (Y 54 (Z (K.dops [(0,0,M 56 0),(1,0,D 57 5 13),(2,0,L 58 57 1),(3,0,D 59 7 1),(4,0,L 60 59 1),(5,0,⟨none,.bin (some 61) .add (kc 1) (kt 60)⟩),(6,0,kX 62 58 61 15),(7,0,J 63 62 15),(8,0,M 64 2),(9,0,D 65 5 0),(10,0,J 66 65 3),(11,0,D 67 7 1),(12,0,L 68 67 1),(13,0,D 69 7 2),(14,0,L 70 69 1),(15,0,kXi 71 70 3 0),(16,0,J 72 71 3),(17,0,kC 73 114 [(kt 64),(kt 66),(kt 68),(kt 72)]),(18,10,kC 74 115 [(kt 56),(kt 63),(kt 73)]),(19,0,S 8 74 3)]) kr) ks)))))))))) (G [M 75 0,D 76 5 13,L 77 76 1,kXi 78 77 15 1,J 79 78 15,M 80 2,kC 81 115 [(kt 75),(kt 79),(kt 80)],kZ 9 [ki,ki,kl],S 9 81 3] (Z (G [D 82 7 2,
 L 83 82 1,kN 84 83,kMi 85 0] (K.block 1 (K.loop (G [kB 86 85 84 .lss] (Z (Y 86 ks (K.exit 1)) (Z (K.block 2 (G [kX 87 83 85 3,J 88 87 3,kZ 11 [ki,ki,kl],S 11 88 3] (K.dops [(0,0,M 89 0),(1,0,D 90 5 13),(2,0,L 91 90 1),(3,0,kXi 92 91 15 2),(4,0,J 93 92 15),(5,0,M 94 2),(6,0,D 95 5 0),(7,0,J 96 95 3),(8,0,J 97 11 3),(9,0,kC 98 114 [(kt 94),(kt 96),(kc 0),(kt 97)]),(10,0,D 99 5 0),(11,0,J 100 99 3),(12,0,J 101 9 3),(13,0,kC 102 114 [(kt 98),(kt 100),(kc 1),(kt 101)]),(14,10,kC 103 115 [(kt 89),(kt 93),(kt 102)]),(15,0,S 9 103 3)]))) (K.ops [kBi 104 85 1 .add,M 85 104]))))))) (G [J 105 9 3,S 8 105 3] kr))))
def qOw:Nat→Option (List (Nat×Nat)):=fun r=>match r with | 7=>some [(0,0),(1,0),(2,0),(3,0),(4,0),(5,0),(6,0),(7,0),(8,0),(9,0),(10,10),(11,0)] | 11=>some [(0,0),(1,0),(2,0),(3,0),(4,0),(5,0),(6,0),(7,0),(8,0),(9,0),(10,0),(11,0),(12,0),(13,0),(14,0),(15,0),(16,0),(17,0),(18,10),(19,0)] | 16=>some [(0,0),(1,0),(2,0),(3,0),(4,0),(5,0),(6,0),(7,0),(8,0),(9,0),(10,0),(11,0),(12,0),(13,0),(14,10),(15,0)] | _=>none
theorem zJu:qC Tryz.prog Tryz.f165.ntmps qOw (Tryz.f165.body.getD .skip)=some zHT.erase:=by kernel_rfl
@[simp] theorem qML:zA Tryz.prog 165=true:=by kernel_rfl
abbrev BrE (p:Prg)(F:Int)(e:Exp)(V:List EVar)(v:Val)(s:XS)(r:Val×XS):Prop:=RP 165 [.ptr 0 0,.agg (zF e),scE V,.agg (zI v)] p F s (.agg (zI r.1)) r.2
set_option maxHeartbeats 1000000 in
theorem zXd {a b d:Exp}{x:Int}(hx:x=0∨x=1)(hk:e.k=5)(hks:e.kids=[a,b,d])(hb:zLj p F b V s (ev b V s))(hd:zLj p F d V s (ev d V s)):BrE p F e V (.mk 1 x []) s (zA2 ev e V (.mk 1 x []) s):=by
 have hP:=eP p;have hY:zA2 ev e V (.mk 1 x []) s=ev (if x=1 then b else d) V s:=by unfold zA2;rw[hks];rcases hx with rfl | rfl<;>simp[hk,zY]
 rw[hY];rcases hx with rfl | rfl
 ·rw[if_neg (by decide)];generalize ev d V s=r at *
  constructor
  ·intro hf;refine zH Tryz.func165 rfl zJu (rs:=[.cell 8 3 true]) (by kernel_rfl) ?_;unfold zHT;simp[eS,hP,zF,zI,hk,hks,zJ,qG,zY,zM];refine zN (hd.ret hf) [0] (by decide) (by simp[eS,hP]) (by simp[zF]) ?_;simp[eS,hP,zI];exact zG [0] 0 (by decide) (by simp) (by simp) (by simp[zI])
  ·intro hf;refine yZ Tryz.func165 rfl zJu (rs:=[.cell 8 3 true]) (by kernel_rfl) ?_;unfold zHT wpF;simp[eS,hP,zF,zI,hk,hks,zJ,qG,zY,zM];refine zHh (hd.pan hf) [0] (by decide) (by simp[eS,hP]) (by simp[zF]) fun τ=>?_
   simp
 ·rw[if_pos rfl];generalize ev b V s=r at *
  constructor
  ·intro hf;refine zH Tryz.func165 rfl zJu (rs:=[.cell 8 3 true]) (by kernel_rfl) ?_;unfold zHT;simp[eS,hP,zF,zI,hk,hks,zJ,qG,zY,zM];refine zN (hb.ret hf) [0] (by decide) (by simp[eS,hP]) (by simp[zF]) ?_;simp[eS,hP,zI];exact zG [0] 0 (by decide) (by simp) (by simp) (by simp[zI])
  ·intro hf;refine yZ Tryz.func165 rfl zJu (rs:=[.cell 8 3 true]) (by kernel_rfl) ?_;unfold zHT wpF;simp[eS,hP,zF,zI,hk,hks,zJ,qG,zY,zM];refine zHh (hb.pan hf) [0] (by decide) (by simp[eS,hP]) (by simp[zF]) fun τ=>?_
   simp
set_option maxHeartbeats 1000000 in
theorem zXe {a b:Exp}(hk:e.k=6)(hks:e.kids=[a,b])(hb:zLj p F b (V++[⟨e.id,0,v⟩]) s (ev b (V++[⟨e.id,0,v⟩]) s)):BrE p F e V v s (zA2 ev e V v s):=by
 have hP:=eP p;have hY:zA2 ev e V v s=ev b (V++[⟨e.id,0,v⟩]) s:=by unfold zA2;rw[hks];simp[hk]
 rw[hY];generalize ev b (V++[⟨e.id,0,v⟩]) s=r at *
 have hw:=zCp V.reverse ⟨e.id,0,v⟩;constructor
 ·intro hf;refine zH Tryz.func165 rfl zJu (rs:=[.cell 8 3 true]) (by kernel_rfl) ?_;unfold zHT;simp[eS,hP,zF,zI,hk,hks,zJ,qG,zY,zM];refine qE hw (by simp[qX,zI]) (by simp) ?_;simp[eS,hP];refine zBT (hb.ret hf) [0] (by decide) (by simp[eS,hP]) (by simp[zF]) ?_;simp[eS,hP,zI];exact zG [0] 0 (by decide) (by simp) (by simp) (by simp[zI])
 ·intro hf;refine yZ Tryz.func165 rfl zJu (rs:=[.cell 8 3 true]) (by kernel_rfl) ?_;unfold zHT wpF;simp[eS,hP,zF,zI,hk,hks,zJ,qG,zY,zM];refine qE hw (by simp[qX,zI]) (by simp) ?_;simp[eS,hP];refine zDh (hb.pan hf) [0] (by decide) (by simp[eS,hP]) (by simp[zF]) fun τ=>?_
  simp
theorem zRV {a:Exp}{vs:List Val}{j:Nat}(hk:e.k=8)(hn:e.n=j)(hs:s.fail=0)(hj:j<vs.length)(hks:e.kids=[a]):BrE p F e V (.mk 2 0 vs) s (zA2 ev e V (.mk 2 0 vs) s):=by
 have hP:=eP p;have hY:zA2 ev e V (.mk 2 0 vs) s=(vs[j],s):=by unfold zA2;simp[hk,hn,zM,hj]
 rw[hY];refine⟨fun _=>?_,fun hf=>(hf hs).elim⟩;refine zH Tryz.func165 rfl zJu (rs:=[.cell 8 3 true]) (by kernel_rfl) ?_;unfold zHT;simp[eS,hP,zF,zI,hk,hks,zJ,qG,zY,zM,hn,hj,jD hj];exact zG [0] 0 (by decide) (by simp) (by simp) (by simp[zI])
set_option maxHeartbeats 1000000 in
theorem zRW {a:Exp}{ks:List Exp}{q:Nat}{x:Val}(hk:e.k=10)(hks:e.kids=a::ks)(hq:q<ks.length)(hl6:ks.length≤32768)(hb:zLj p F ks[q] (V++[⟨e.id,q,x⟩]) s (ev ks[q] (V++[⟨e.id,q,x⟩]) s)):BrE p F e V (.mk 3 q [x]) s (zA2 ev e V (.mk 3 q [x]) s):=by
 have hP:=eP p;have e2:(1+(q:Int)).toNat=q+1:=by omega
 have hw1:IntKind.i64.wrap (1+(q:Int))=((q+1:Nat):Int):=by rw[IntWalk.i64_in _ (by omega)]; omega
 have hY:zA2 ev e V (.mk 3 q [x]) s=ev ks[q] (V++[⟨e.id,q,x⟩]) s:=by unfold zA2;rw[hks];simp[hk,zY,zM,e2,hq]
 rw[hY];generalize ev ks[q] (V++[⟨e.id,q,x⟩]) s=r at *
 have hw:=zCp V.reverse ⟨e.id,q,x⟩;have hdr:(qL (a::ks)).drop ((q+1)*15)=zF ks[q]++qL (ks.drop (q+1)):=by
  have:=yJ (l:=a::ks) (i:=q+1) (by simpa using hq)
  simpa using this
 have hlt:q+1<(a::ks).length:=by simpa using hq
 generalize hQ:a::ks=Q at *
 obtain⟨M,hM⟩:∃M,M=q+1:=⟨_,rfl⟩;rw[←hM]at hw1 hdr hlt;constructor
 ·intro hf;refine zH Tryz.func165 rfl zJu (rs:=[.cell 8 3 true]) (by kernel_rfl) ?_;unfold zHT;simp[eS,hP,zF,zI,hk,hks,qG,zY,zM,hw1,hlt,hdr];refine qE hw (by simp[qX,zI]) (by simp) ?_;simp[eS,hP];refine zBT (hb.ret hf) [0] (by decide) (by simp[eS,hP]) (by simp[zF]) ?_;simp[eS,hP,zI];exact zG [0] 0 (by decide) (by simp) (by simp) (by simp[zI])
 ·intro hf;refine yZ Tryz.func165 rfl zJu (rs:=[.cell 8 3 true]) (by kernel_rfl) ?_;unfold zHT wpF;simp[eS,hP,zF,zI,hk,hks,qG,zY,zM,hw1,hlt,hdr];refine qE hw (by simp[qX,zI]) (by simp) ?_;simp[eS,hP];refine zDh (hb.pan hf) [0] (by decide) (by simp[eS,hP]) (by simp[zF]) fun τ=>?_
  simp
set_option maxHeartbeats 2000000 in
theorem zU0 {l z b:Exp}{vs:List Val}(h:zFf ev)(hk:e.k=12)(hks:e.kids=[l,z,b])(hz:zLj p F z V s (ev z V s))(hb:∀x a s',s'.fail=0→(∃i,(jR ev V e.id b (vs.take i) (ev z V s))=(a,s')∧vs[i]?=some x)→zLj p F b (V++[⟨e.id,0,x⟩]++[⟨e.id,1,a⟩]) s' (ev b (V++[⟨e.id,0,x⟩]++[⟨e.id,1,a⟩]) s')) :
 BrE p F e V (.mk 4 0 vs) s (zA2 ev e V (.mk 4 0 vs) s):=by
 have hP:=eP p;have hY:zA2 ev e V (.mk 4 0 vs) s=jR ev V e.id b vs (ev z V s):=by unfold zA2;rw[hks];simp[hk,zM]
 rw[hY];have htk:vs.take vs.length=vs:=List.take_length;generalize ev z V s=r at *
 by_cases hr0:r.2.fail=0
 ·have hz:=hz.ret hr0;constructor
  ·intro hf;have hpre:∀i,i≤vs.length→(jR ev V e.id b (vs.take i) r).2.fail=0:=fun i hi=>zIp h V e.id b vs r i vs.length hi (by rw[htk]; exact hf)
   refine zH Tryz.func165 rfl zJu (rs:=[.cell 8 3 true]) (by kernel_rfl) ?_;unfold zHT;simp[eS,hP,zF,zI,hk,hks,zJ,qG,zY,zM];refine zN hz [0] (by decide) (by simp[eS,hP]) (by simp[zF]) ?_;simp[eS,hP,zI];intro hls;refine qZ (S:=Nat) (fun i=>[(0,.ptr 0 0),(2,scE V),(5,.ptr 1 0),(8,.ptr 3 0),(9,.ptr 4 0),(83,.sl vs.length (zV vs)),(84,int vs.length),(85,int i)])
    (fun i=>eS p F (jR ev V e.id b (vs.take i) r).2++[.box (zF e),.box (zI (.mk 4 0 vs)),.box [int 0,int 0,.nil],.box (zI (jR ev V e.id b (vs.take i) r).1)]) (fun i=>i≤vs.length) (fun i=>vs.length-i) 0 (by simp)
    (zS [0,1,2,3,4] 0 (by decide) (by simp) (by simp[eS,hP,zF,zI,hks,zJ,hk,jR,qG,zY,zM]) (by simp)) ?_
   intro i hi;by_cases hil:i<vs.length
   ·have hw0:=zCp V.reverse ⟨e.id,0,vs[i]⟩;have hsn:=zE9 ev V e.id b vs[i] (vs.take i) r;rw[←List.take_succ_eq_append_getElem hil]at hsn;have hdr:=jD hil;have HP1:=hpre (i+1) hil;have hok:=hb vs[i] _ _ (hpre i hi) ⟨i,rfl,List.getElem?_eq_getElem hil⟩;generalize hFn:jR ev V e.id b (vs.take (i+1)) r=Fn at hsn HP1;subst hsn;generalize hFi:jR ev V e.id b (vs.take i) r=Fi at *
    obtain⟨acc,si⟩:=Fi;simp only at *
    have hw1:=zCp (⟨e.id,0,vs[i]⟩::V.reverse) ⟨e.id,1,acc⟩;generalize ev b (V++[⟨e.id,0,vs[i]⟩]++[⟨e.id,1,acc⟩]) si=rk at *
    obtain⟨v',sk⟩:=rk;simp only at *
    simp[eS,hP,zF,zI,hil,hdr,hks,zJ,hFi,qG,zY,zM];refine qE hw0 (by simp[qX,zI]) (by simp) ?_;simp[eS,hP];refine qE hw1 (by simp[qX,zI]) (by simp) ?_;simp[eS,hP];refine zBT (hok.ret HP1) [0] (by decide) (by simp[eS,hP]) (by simp[zF]) ?_;simp[eS,hP,zI];exact zT (i+1) hil (by omega) (zS [0,1,2,3,4] 0 (by decide) (by simp) (by simp[eS,hP,zF,zI,hks,zJ,hFn,hk,qG,zY,zM]) (by simp[qB hil hls]))
   ·have hil:i=vs.length:=by omega
    subst hil;rw[htk];simp[eS,hP,zI];exact zG [0] 0 (by decide) (by simp) (by simp) (by simp[zI])
  ·intro hf;obtain⟨k,hk1,hk0,hk2⟩:=zJe h V e.id b vs r hr0 hf;have hpre:∀i,i≤k→(jR ev V e.id b (vs.take i) r).2.fail=0:=fun i hi=>zIp h V e.id b vs r i k hi hk0
   rw[←hk2]at hf ⊢;refine yZ Tryz.func165 rfl zJu (rs:=[.cell 8 3 true]) (by kernel_rfl) ?_;unfold zHT wpF;simp[eS,hP,zF,zI,hk,hks,zJ,qG,zY,zM];refine zN hz [0] (by decide) (by simp[eS,hP]) (by simp[zF]) ?_;simp[eS,hP,zI];intro hls;refine qZ (S:=Nat) (fun i=>[(0,.ptr 0 0),(2,scE V),(5,.ptr 1 0),(8,.ptr 3 0),(9,.ptr 4 0),(83,.sl vs.length (zV vs)),(84,int vs.length),(85,int i)])
    (fun i=>eS p F (jR ev V e.id b (vs.take i) r).2++[.box (zF e),.box (zI (.mk 4 0 vs)),.box [int 0,int 0,.nil],.box (zI (jR ev V e.id b (vs.take i) r).1)]) (fun i=>i≤k) (fun i=>vs.length-i) 0 (by simp)
    (zS [0,1,2,3,4] 0 (by decide) (by simp) (by simp[eS,hP,zF,zI,hks,zJ,hk,jR,qG,zY,zM]) (by simp)) ?_
   intro i hi;have hil:i<vs.length:=by omega
   have hw0:=zCp V.reverse ⟨e.id,0,vs[i]⟩;have hsn:=zE9 ev V e.id b vs[i] (vs.take i) r;rw[←List.take_succ_eq_append_getElem hil]at hsn;have hdr:=jD hil;have hok:=hb vs[i] _ _ (hpre i hi) ⟨i,rfl,List.getElem?_eq_getElem hil⟩;by_cases hik:i<k
   ·have HP1:=hpre (i+1) hik;generalize hFn:jR ev V e.id b (vs.take (i+1)) r=Fn at hsn HP1;subst hsn;generalize hFi:jR ev V e.id b (vs.take i) r=Fi at *
    obtain⟨acc,si⟩:=Fi;simp only at *
    have hw1:=zCp (⟨e.id,0,vs[i]⟩::V.reverse) ⟨e.id,1,acc⟩;generalize ev b (V++[⟨e.id,0,vs[i]⟩]++[⟨e.id,1,acc⟩]) si=rk at *
    obtain⟨v',sk⟩:=rk;simp only at *
    simp[eS,hP,zF,zI,hil,hdr,hks,zJ,hFi,qG,zY,zM];refine qE hw0 (by simp[qX,zI]) (by simp) ?_;simp[eS,hP];refine qE hw1 (by simp[qX,zI]) (by simp) ?_;simp[eS,hP];refine zBT (hok.ret HP1) [0] (by decide) (by simp[eS,hP]) (by simp[zF]) ?_;simp[eS,hP,zI];exact zT (i+1) hik (by omega) (zS [0,1,2,3,4] 0 (by decide) (by simp) (by simp[eS,hP,zF,zI,hks,zJ,hFn,hk,qG,zY,zM]) (by simp[qB hil hls]))
   ·have hik:i=k:=by omega
    subst hik;have HP1:=hf;generalize hFn:jR ev V e.id b (vs.take (i+1)) r=Fn at hsn HP1;subst hsn;generalize hFi:jR ev V e.id b (vs.take i) r=Fi at *
    obtain⟨acc,si⟩:=Fi;simp only at *
    have hw1:=zCp (⟨e.id,0,vs[i]⟩::V.reverse) ⟨e.id,1,acc⟩;generalize ev b (V++[⟨e.id,0,vs[i]⟩]++[⟨e.id,1,acc⟩]) si=rk at *
    obtain⟨v',sk⟩:=rk;simp only at *
    simp[eS,hP,zF,zI,hil,hdr,hks,zJ,hFi,qG,zY,zM];refine qE hw0 (by simp[qX,zI]) (by simp) ?_;simp[eS,hP];refine qE hw1 (by simp[qX,zI]) (by simp) ?_;simp[eS,hP];refine zDh (hok.pan HP1) [0] (by decide) (by simp[eS,hP]) (by simp[zF]) fun τ=>?_
    simp
 ·have hx:(jR ev V e.id b vs r).2=r.2:=zC5 h V e.id b vs r hr0;unfold BrE;rw[hx];refine⟨fun hf=>(hr0 hf).elim,fun hf=>?_⟩;refine yZ Tryz.func165 rfl zJu (rs:=[.cell 8 3 true]) (by kernel_rfl) ?_;unfold zHT wpF;simp[eS,hP,zF,zI,hk,hks,zJ,qG,zY,zM];refine zHh (hz.pan hf) [0] (by decide) (by simp[eS,hP]) (by simp[zF]) fun τ=>?_
  simp
end
structure Res where
 v:Val
 ds:List Id
 ns:List Id
 e:Int
def zDz (r:Res):A:=.tup [.agg (zI r.v),.agg [.sl r.ds.length (qF r.ds),.sl r.ns.length (qF r.ns)],int r.e]
def zMD (r:Val×XS):Res:=⟨if r.2.fail=0 then r.1 else vz,zBJ r.2.ds,zBJ r.2.ns,r.2.fail⟩
def zBI (p:Prg)(d:Dfn)(vs:List Val)(fuel:Int):Val×XS:=zA6 (zAs p 1 fuel.toNat) d vs ⟨fuel,0,zBw p d.slots [],[]⟩
def zAm (p:Prg)(id:Id)(vs:List Val)(fuel:Int):Res:=match yC p.defs id with
 | none=>⟨vz,[],[],6⟩
 | some d=>if zBO d.kind=false then ⟨vz,[],[],6⟩ else if vs.length≠d.slots.length then ⟨vz,[],[],1⟩
  else if zBK p (d.slots.map Slt.typ) vs=false then ⟨vz,[],[],1⟩ else zMD (zBI p d vs fuel)
theorem zIo {P:Prg}:∀{ts:List Typ} {vs:List Val},vs.length=ts.length→(∀(j:Nat) (h1:j<ts.length) (h2:j<vs.length),zB7 P ts[j] vs[j]=true)→zBK P ts vs=true
 | [],[],_,_=>rfl
 | t::ts,v::vs,hl,h=>by rw[zBK,Bool.and_eq_true];exact⟨h 0 (by simp) (by simp),zIo (by simpa using hl) fun j h1 h2=>h (j+1) (by simpa using h1) (by simpa using h2)⟩
 | [],v::vs,hl,_=>by simp at hl
 | t::ts,[],hl,_=>by simp at hl
def zT6:K:=(Z (K.dops [(0,0,J 87 20 3),(1,0,D 88 13 0),(2,0,L 89 88 1),(3,1,kC 90 48 [(kt 89)]),(4,0,D 91 13 1),(5,0,L 92 91 1),(6,1,kC 93 48 [(kt 92)]),(7,0,kb 94 [kl,kl] [(0,1,(kt 90)),(1,1,(kt 93))]),(8,0,M 95 16),(9,0,kU 96 95),(10,2,D 97 96 3),(11,2004,L 98 97 1),(12,1004,S 8 87 3),(13,1004,S 9 94 2),(14,0,M 10 98)]) kr)
def qFI:K:=G [kO 4 0,kO 5 1,kZ 8 [ki,ki,kl],kZ 9 [kl,kl],kMi 10 0] (G [J 22 4 2,J 23 5 3,kC 24 42 [(kt 22),(kt 23)],M 21 24,kE 25 21 0,kE 26 21 1,kZ 11 kz0,S 11 25 31,M 12 26] (Z (G [M 27 12,kR 28 27,M 29 28,T 29 false (J 30 11 31),T 29 false (kC 31 43 [(kt 30)]),T 29 false (kR 32 31),kPt 33 29 32] (Y 33 (G [kb 34 [ki,ki,kl] [],kb 35 [kl,kl] [],S 8 34 3,S 9 35 2,kMi 10 6] kr) ks)) (Z (G [M 36 2,kN 37 36,D 38 11 8,L 39 38 1,kN 40 39,kQ 41 37 40 true] (Y 41 (G [kb 42 [ki,ki,kl] [],kb 43 [kl,kl] [],S 8 42 3,S 9 43 2,kMi 10 1] kr) ks)) (G [kZ 13 [kl,kl]] (G [⟨none,.mop (some 44) (.mk 3) []⟩,kZ 14 [(.map none)],S 14 44 1] (G [⟨none,.clo (some 45) 44 [] [(kt 13),(kt 14)]⟩,M 15 45] (G [J 46 4 2,M 47 3,M 48 15,kb 49 [kl,kl,ki,ki,.nilFunc] [(0,2,(kt 46)),(2,1,(kt 47)),(4,1,(kt 48))],kO 50 49,M 16 50] (G [⟨none,.mop (some 51) (.mk 3) []⟩,M 17 51] (Z (G [D 52 11 8,L 53 52 1,kN 54 53,kMi 55 0] (K.block 0 (K.loop (G [kB 56 55 54 .lss] (Z (Y 56 ks (K.exit 0)) (Z (K.block 1 (G [M 57 55,kX 58 53 55 11,J 59 58 11,kZ 19 kz5,M 18 57,S 19 59 11] (Z (Z (K.dops [(0,0,J 60 4 2),(1,0,D 61 19 4),(2,0,J 62 61 5),(3,0,M 63 2),(4,0,M 64 18),(5,0,kX 65 63 64 3),(6,0,J 66 65 3),(7,0,kC 67 45 [(kt 60),(kt 62),(kt 66)]),(8,0,kR 68 67)]) (Y 68 (G [kb 69 [ki,ki,kl] [],kb 70 [kl,kl] [],S 8 69 3,S 9 70 2,kMi 10 1] kr) ks)) (K.ops [M 71 16,D 72 19 4,J 73 72 5,M 74 17,kC 75 46 [(kt 71),(kt 73),(kt 74)]])))) (K.ops [kBi 76 55 1 .add,M 55 76]))))))) (G [M 77 16,J 78 11 31,
 M 79 2,kC 80 47 [(kt 77),(kt 78),(kt 79)],kZ 20 [ki,ki,kl],S 20 80 3] (Z (G [M 81 16,kU 82 81,D 83 82 3,L 84 83 1,kQi 85 84 0 true] (Y 85 (K.ops [kb 86 [ki,ki,kl] [],S 20 86 3]) ks)) (K.wk zT6))))))))))))
def qO7:Nat→Option (List (Nat×Nat)):=fun r=>match r with | 21=>some [(0,0),(1,0),(2,0),(3,1),(4,0),(5,0),(6,1),(7,0),(8,0),(9,0),(10,2),(11,2004),(12,1004),(13,1004),(14,0)] | _=>none
theorem qM2:qC Tryz.prog Tryz.f13.ntmps qO7 (Tryz.f13.body.getD .skip)=some qFI.erase:=by kernel_rfl
@[simp] theorem qNH:zA Tryz.prog 13=true:=by kernel_rfl
@[simp] theorem qJX:zA Tryz.prog 46=true:=by kernel_rfl
theorem zLB (p:Prg)(d:Dfn)(v:Val)(y:A)(fuel fail:Int)(ds ns:List Id)(h1:ds.length≤1000000)(h2:ns.length≤1000000) :
 wpK Tryz.prog 0 zT6 (fin [RS.cell 8 3 true,RS.cell 9 2 true,RS.slot 10] (zHa 0 (zDz ⟨v,zBJ ds,zBJ ns,fail⟩) []))
  (qT [(8,.ptr 0 0),(9,.ptr 1 0),(13,.ptr 5 0),(16,.ptr 4 0),(20,.ptr 6 0)])
  [.box [int 0,int 0,.nil],.box [.nil,.nil],.box (zU p),.box (zP d),.box (zU p++[int fuel,int fail,.clo 44 [] [.ptr 5 0,y]]),.box [.sl ds.length (qF ds),.sl ns.length (qF ns)],.box (zI v)]:=by
 have hP:=eP p;unfold zT6;simp[hP,zI];refine zA3 (zFI ds h1) (by simp) (by simp) ?_;simp;refine zA3 (zFI ns h2) (by simp) (by simp) ?_;simp;exact⟨by simp[zAP],by simp[zAP,zEF],by simp[zAP,zEF],zC 0 (by simp[zDz,zI])⟩
theorem zL4 {d:Dfn}(h:zBO d.kind=true):zBL d=true:=by simp[zBO]at h;simp[zBL];omega
theorem zL5 {p:Prg}{hs:List Hd}(hf:Fit p hs):zTE p:=fun d hd=>⟨(hf.slots d hd).2.1,(hf.slots d hd).2.2.2.1⟩
set_option maxHeartbeats 4000000 in
set_option maxRecDepth 100000 in
theorem zOU {p:Prg}{hs:List Hd}(hf:Fit p hs)(id:Id)(vs:List Val)(fuel:Int)(hfu:fuel≤90000)(hz:∀v∈vs,qH v≤256∧zA0 v≤24) :
 Ret Tryz.prog 13 [.agg (zU p),.agg (qX id),.sl vs.length (zV vs),int fuel] [] (zDz (zAm p id vs fuel)) []:=by
 have hP:=eP p;refine zH Tryz.func13 rfl qM2 (rs:=[.cell 8 3 true,.cell 9 2 true,.slot 10]) (by kernel_rfl) ?_;unfold qFI;simp[hP,qX];refine zR (zE3 p id) (by simp[zU,qX]) (by simp[zAL]) ?_;cases hd:yC p.defs id with
 | none =>
  rw[show zAm p id vs fuel=⟨vz,[],[],6⟩ by simp[zAm,hd]];simp[zAL,hd,zP];exact zC 0 (by simp[zDz,zI,qG,zY,zM])
 | some d =>
 have hdm:=(zAC hd).1;obtain⟨s1,s6,_,snd,sty⟩:=hf.slots d hdm;simp[zAL,hd,zP];refine zR (zFS d) (by simp[zP]) (by simp) ?_;cases hb:zBO d.kind with
 | false =>
  rw[show zAm p id vs fuel=⟨vz,[],[],6⟩ by simp[zAm,hd,hb]];simp;exact zC 0 (by simp[zDz,zI,qG,zY,zM])
 | true =>
 by_cases hl:vs.length=d.slots.length
 ·have hfit:=fun i (hi:i<d.slots.length)=>zM0 p d.slots[i].typ (vs[i]'(by omega)) (hz _ (List.getElem_mem _)).1 (hz _ (List.getElem_mem _)).2
  have hgo:∀s:XS,s.ns=[]→∀i (hi:i<d.slots.length),zGZ p s 10 d.slots[i].typ:=fun s hs0 i hi=>zO9 hf s hs0 (sty _ (List.getElem_mem hi)) 10 (by omega)
  have hrl:∀i,i≤d.slots.length→RL p (zBw p (d.slots.take i) []):=by
   intro i hi;induction i with
   | zero=>exact⟨by simp[zBw],by simp[zBw]⟩
   | succ i ih =>
    have:=zGa (fun L (s:Slt)=>zAv p 10 s.typ L) [] (l:=d.slots) (i:=i) (by omega);unfold zBw at ih ⊢;rw[this];exact((hgo ⟨0,0,[],[]⟩ rfl i (by omega)) _ (ih (by omega))).1
  obtain⟨S,hS⟩:∃S:XS,S=⟨fuel,0,[],[]⟩:=⟨_,rfl⟩;have hS0:S.ns=[]:=by rw[hS]
  have hSf:S.fuel=fuel:=by rw[hS]
  have hSe:S.fail=0:=by rw[hS]
  simp[hl];intro hls;refine qZ (S:=Nat) (fun i=>[(2,.sl vs.length (zV vs)),(4,.ptr 7 0),(8,.ptr 8 0),(9,.ptr 9 0),(10,int 0),(11,.ptr 10 0),(13,.ptr 1 0),(16,.ptr 0 0),(17,.map 6),(53,.sl d.slots.length (jU d.slots)),(54,int d.slots.length),(55,int i)])
   (fun i=>rS p S (zBw p (d.slots.take i) [])++[.box (zU p),.box [int 0,int 0,.nil],.box [.nil,.nil],.box (zP d)]) (fun i=>i≤d.slots.length∧∀j (hj:j<i) (hj':j<d.slots.length),zB7 p d.slots[j].typ (vs[j]'(by omega))=true) (fun i=>d.slots.length-i) 0 ⟨by omega,fun j hj=>by omega⟩
   (((zAf (l:=5) (o:=0) rfl rfl 29 3).trans (zAf (l:=5) (o:=1) rfl rfl 29 3)).trans (zS [8,5,7,10,11,6,9,0,2,3,4] 0 (by decide) (by simp) (by simp[rS,tS,hP,hS,zBw,ddL,zH6,zP]) (by simp[hl]))) ?_
  rintro i ⟨hi,hft⟩;by_cases hil:i<d.slots.length
  ·have hiv:i<vs.length:=by omega
   have hdr:=jL hil;have hdv:=jD hiv;have hfi:=hfit i hil;obtain⟨_,hro⟩:=hgo S hS0 i hil _ (hrl i (by omega));have hst:=zGa (fun L (s:Slt)=>zAv p 10 s.typ L) [] hil;change zBw p (d.slots.take (i+1)) []=zAv p 10 d.slots[i].typ (zBw p (d.slots.take i) [])at hst;generalize zBw p (d.slots.take i) []=L at hro hst ⊢;have hd0:ddL S.ns=[]:=by rw[hS0]; rfl
   cases hfv:zB7 p d.slots[i].typ vs[i]with
   | false =>
    rw[hfv]at hfi;have hfl:zBK p (d.slots.map Slt.typ) vs=false:=by
     cases hq:zBK p (d.slots.map Slt.typ) vs with
     | false=>rfl
     | true =>
      have:=zFY hq i (by simpa using hil) hiv;rw[List.getElem_map,hfv]at this;cases this
    have hx:zAm p id vs fuel=⟨vz,[],[],1⟩:=by simp[zAm,hd,hb,hl,hfl]
    rw[hx];simp[rS,tS,hP,hSf,hSe,hd0,hil,hiv,hdr,hdv,zAd];refine qE hfi (by simp[hP,zB,zI]) (by simp) ?_;simp;exact zC 0 (by simp[zDz,zI,qG,zY,zM])
   | true =>
    rw[hfv]at hfi;simp[rS,tS,hP,hSf,hSe,hd0,hil,hiv,hdr,hdv,zAd];refine qE hfi (by simp[hP,zB,zI]) (by simp) ?_;simp;refine zN hro [0,1,2,3,4,5,6] (by decide) (by simp[rS,tS,hP,hSf,hSe,hd0]) (by simp[zB]) ?_;simp[rS,tS,hP,hSf,hSe,hd0];refine zT (i+1) ⟨hil,fun j hj hj'=>?_⟩ (by omega) (zS [0,1,2,3,4,5,6,7,8,9,10] 0 (by decide) (by simp) (by simp[rS,tS,hP,hSf,hSe,hd0,hst]) (by simp[qB hil hls]));by_cases hji:j=i
    ·subst hji; exact hfv
    ·exact hft j (by omega) hj'
  ·have hie:i=d.slots.length:=by omega
   subst hie;have hfl:zBK p (d.slots.map Slt.typ) vs=true:=zIo (by simpa using hl) fun j h1 h2=>by rw[List.getElem_map];exact hft j (by simpa using h1) (by simpa using h1)
   have hx:zAm p id vs fuel=zMD (zBI p d vs fuel):=by simp[zAm,hd,hb,hl,hfl]
   rw[hx];have htk:d.slots.take d.slots.length=d.slots:=List.take_length;have hL8:=(hrl d.slots.length (Nat.le_refl _)).len hf;rw[htk]at hL8 ⊢;have hty:TyL p (d.slots.map Slt.typ) vs:=TyL.of (by simpa using hl) fun j hj=>by rw[List.getElem_map];exact zRb hf (sty _ (List.getElem_mem _)) _ (hft j (by omega) (by omega))
   have hbB:zBL d=true:=zL4 hb;have hBd:Bd 100000 fuel.toNat ⟨fuel,0,zBw p d.slots [],[]⟩:=⟨by simp; omega,by simp only; omega,by simp only; omega,fun _=>by simp only; omega⟩;have hIh:=zOX (c:=100000) hf.bods (zL5 hf) (by omega) fuel.toNat;have hbo:=zQM hIh (by omega) d vs (fun _=>hl) snd s6 (fun _ _=>⟨_,_,hf.bods _ d hd hbB,EnvT.args hty fun v hv=>(hz v hv).1,zJ2 snd vs hl⟩) hBd;have hrB:=zJK hIh.bd d vs _ hBd;change Ret Tryz.prog 47 _ _ (.agg (zI (zBI p d vs fuel).1)) (tS p (zBI p d vs fuel).2)at hbo;change Bd 100000 fuel.toNat (zBI p d vs fuel).2 at hrB;generalize zBI p d vs fuel=r at *
   obtain⟨v,s⟩:=r;simp only at *
   have hd0:ddL S.ns=[]:=by rw[hS0]; rfl
   have r1:=hrB.ds;have r2:=hrB.ns;have r3:=zMA s.ns;generalize zBw p d.slots []=L at *
   simp[rS,tS,hP,hSf,hSe,hd0,zP];refine zN hbo [0,1,2,3,4,5] (by decide) (by simp[tS,hP,ddL,zH6]) (by simp[zP]) ?_;simp[tS,hP,zI];by_cases h0:s.fail=0
   ·have he:zMD (v,s)=⟨v,zBJ s.ds,zBJ (ddL s.ns),s.fail⟩:=by rw[zR0]; simp[zMD,h0]
    rw[he];simp[h0];have hr:=zLB p d v (.rptr [.any]) s.fuel s.fail s.ds (ddL s.ns) (by omega) (by omega);rw[h0]at hr;exact⟨_,_,zS [8,9,7,10,0,1,11] 1 (by decide) (by simp) (by simp[hP,zP,zI]) (by simp),hr⟩
   ·have he:zMD (v,s)=⟨vz,zBJ s.ds,zBJ (ddL s.ns),s.fail⟩:=by rw[zR0]; simp[zMD,h0]
    rw[he];simp[h0];exact⟨_,_,zS [8,9,7,10,0,1,11] 1 (by decide) (by simp) (by simp[hP,zP,zI,qG,zY,zM]) (by simp),zLB p d vz (.rptr [.any]) s.fuel s.fail s.ds (ddL s.ns) (by omega) (by omega)⟩
 ·rw[show zAm p id vs fuel=⟨vz,[],[],1⟩ by simp[zAm,hd,hb,hl]];have hl':¬((vs.length:Int)=d.slots.length):=by omega
  simp[hl']
  intros
  exact zC 0 (by simp[zDz,zI,qG,zY,zM])
def uS (p:Prg)(F:Int)(s:XS):St:=[.box (zU p++[int F,int (F-s.fuel),int s.fail])]
@[simp] theorem qNT:zA Tryz.prog 137=true:=by kernel_rfl
@[simp] theorem qNU:zA Tryz.prog 158=true:=by kernel_rfl
@[simp] theorem qNS:zA Tryz.prog 99=true:=by kernel_rfl
section
variable {p:Prg}{F:Int}{c:Nat}{m:Int}{ev:Evl}{e:Exp}{V:List EVar}{s:XS}
@[simp] theorem qNN:zA Tryz.prog 175=true:=by kernel_rfl
@[simp] theorem qNO:zA Tryz.prog 99=true:=by kernel_rfl
end
section
variable {p:Prg}{c:Nat}{m:Int}{ev:Evl}{e:Exp}{V:List EVar}{s:XS}
@[simp] theorem qOk:zA Tryz.prog 138=true:=by kernel_rfl
section
variable {A:List Val×XS}(hA:Ret Tryz.prog 160 [.ptr 0 0,.sl e.kids.length (qL e.kids),.sl V.length (zCF V)] (xS p s) (.sl A.1.length (zV A.1)) (xS p A.2))
include hA
end
end
theorem zXO {p:Prg}{hs:List Hd}(hf:Fit p hs){r:Nat}{t:Typ}(ht:TyOk hs r t){x:Id}:Nam t x→x∈p.defs.map Dfn.id:=by
 induction ht with
 | int r=>intro hx; cases hx with
  | here _ h=>simp at h
  | kid _ k x h=>simp at h
 | bool r=>intro hx; cases hx with
  | here _ h=>simp at h
  | kid _ k x h=>simp at h
 | list r t h ih=>intro hx; cases hx with
  | here _ h=>simp at h
  | kid _ k x h hx' =>
   simp only[Typ.kids_mk,List.mem_singleton]at h;subst h;exact ih hx'
 | dfn r k h h1 h2 h3 h4 ih=>intro hx; cases hx with
  | here _ h' =>
   obtain⟨d,hd,_⟩:=hf.hd k h;obtain⟨a,b⟩:=zAC hd;exact List.mem_map.2 ⟨d,a,b⟩
  | kid _ k x h=>simp at h
structure RS (p:Prg)(L:List Id):Prop where
 ss:SS L
 sub:∀x∈L,x∈p.defs.map Dfn.id
theorem RS.len {p:Prg}{hs:List Hd}(hf:Fit p hs){L:List Id}(h:RS p L):L.length≤8:=by
 have hn:L.Nodup:=by have:=h.ss;unfold SS at this;exact this.imp fun {a b} hab e=>by subst e; simp[zBR]at hab
 have:=hn.length_le_of_subset (l₂:=p.defs.map Dfn.id) h.sub;have:=hf.len8;simp at *
 omega
theorem RS.nam {p:Prg}{hs:List Hd}(hf:Fit p hs){L:List Id}(h:RS p L){r:Nat}{t:Typ}(ht:TyOk hs r t):RS p (zOr t L) :=
 ⟨zRo t L h.ss,fun x hx=>by
  rcases (zOs t L x).1 hx with hx | hx
  ·exact h.sub x hx
  ·exact zXO hf ht hx⟩
theorem RS.fold {p:Prg} {α : Type}(g : α→List Id→List Id):∀(l:List α) (L:List Id),(∀a∈l,∀L,RS p L→RS p (g a L))→RS p L→RS p (l.foldl (fun L a=>g a L) L)
 | [],L,_,h=>h
 | a::l,L,hg,h=>by rw[List.foldl_cons];exact RS.fold g l _ (fun b hb=>hg b (by simp[hb])) (hg a (by simp) L h)
@[simp] theorem qN0:zA Tryz.prog 100=true:=by kernel_rfl
end Go.Proofs.YthglhccibdlccaaGreatDoor
