/-
  eval: nodes in order, bodies.
  trace: nodes.
  The reference's tracer: lists of nodes, bodies.
  eval: branches.
  trace.Call.
  The reference's evaluator: lists of nodes, bodies.
  The reference's tracer: values.
  The reference: the names in types, and what they reach.
  eval: values, nodes.
  The reference's evaluator: values.
  The reference's tracer: nodes.
  The reference: what the types of a definition's slots reach.
  The arguments that the reference makes fit.
  A run with less fuel does the same, until it has no more.
  eval: nodes; the evaluator does what the data says.
-/
import Derived.Test.YtdnelmeboihpkaaGreatDoorX12
import Derived.Test.YtdnelmeboihpkaaGreatDoorX15
import Derived.Test.YtdnelmeboihpkaaGreatDoorX13
import Derived.Test.YtdnelmeboihpkaaGreatDoorX14
set_option linter.unusedVariables false
set_option maxHeartbeats 8000000
set_option maxRecDepth 100000
set_option linter.unusedSimpArgs false
open Go.Proofs.Tryz (prog)
namespace Go.Proofs.YtdnelmeboihpkaaGreatDoor
open Go.Abs
abbrev zPC (x:Int):Value:=.iface 51 (.int .i64 x)
def eS (p:Prg)(F:Int)(s:XS):St:=[.box (zK p++[int F,int (F-s.fuel)])]
structure RP (f:FuncId)(args:List A)(p:Prg)(F:Int)(s:XS)(r:A)(s':XS):Prop where
 ret:s'.fail=0→Ret prog f args (eS p F s) r (eS p F s')
 pan:s'.fail≠0→Pan prog f args (eS p F s) (zPC s'.fail)
abbrev zMs (p:Prg)(F:Int)(e:Exp)(V:List EVar)(s:XS)(r:Val×XS):Prop:=RP 110 [.ptr 0 0,.agg (zV e),scE V] p F s (.agg (zC r.1)) r.2
structure IhE (p:Prg)(F m:Int)(ev:Evl):Prop where
 stop:zDh ev
 snd:Snd p ev
 fu:∀e V s,Fu m s→Fu m (ev e V s).2
 ok:∀e V s,s.fail=0→Adm p e V s→Fu m s→zMs p F e V s (ev e V s)
@[simp] theorem qM7:zB prog 110=true:=by kernel_rfl
@[simp] theorem qM8:zB prog 150=true:=by kernel_rfl
@[simp] theorem qM5:zB prog 178=true:=by kernel_rfl
section
variable {p:Prg}{F m:Int}{ev:Evl}{e:Exp}{V:List EVar}{s:XS}
def qCk:K:=G [kMn 6] (G [kMn 7] (Z (G [M 10 1,kN 11 10,kMi 12 0] (K.block 0 (K.loop (G [kB 13 12 11 .lss] (Z (Y 13 ks (K.exit 0)) (Z (K.block 1 (G [kX 14 10 12 15,J 15 14 15,kZ 9 kz1,S 9 15 15] (K.ops [M 16 7,M 17 0,J 18 9 15,M 19 2,kC 20 110 [(kt 17),(kt 18),(kt 19)],kd 21 46 3 1 [ki,ki,kl] [(0,3,(kt 20))],kP 22 46 3 40 16 21,M 7 22]))) (K.ops [kBi 23 12 1 .add,M 12 23]))))))) (G [M 24 7,M 6 24] kr)))
theorem qIu:zQ prog Tryz.f176.ntmps (Tryz.f176.body.getD .skip)=some qCk.erase:=by kernel_rfl
@[simp] theorem qOV:zB prog 176=true:=by kernel_rfl
theorem zId (h:IhE p F m ev)(V:List EVar)(l:List Exp)(hl6:l.length≤32768)(hs:s.fail=0)(hA:∀k∈l,∀s,Adm p k V s)(hB:Fu m s) :
 RP 176 [.ptr 0 0,.sl l.length (jR l),scE V] p F s (.sl l.length (zN (qZ ev V l s).1)) (qZ ev V l s).2:=by
 have hP:=eP p;have hst:∀i,Fu m (qZ ev V (l.take i) s).2:=fun i=>zFM h.fu V _ _ hB
 have hln:∀i,i≤l.length→(qZ ev V (l.take i) s).1.length=i:=fun i hi=>by rw[zC1,jAs]; omega
 have h00:qZ ev V [] s=([],s):=rfl;have htk:l.take l.length=l:=jB1;constructor
 ·intro hf;have hpre:∀i,i≤l.length→(qZ ev V (l.take i) s).2.fail=0:=fun i hi=>zKG h.stop V l s i l.length hi (by rw[htk]; exact hf)
  refine zI Tryz.func176 rfl qIu (rs:=[.slot 6]) (by kernel_rfl) ?_;unfold qCk;simp[eS,hP];intro hl;refine jQ (S:=Nat) (fun i=>[(0,.ptr 0 0),(2,scE V),(7,.row 1 i),(10,.sl l.length (jR l)),(11,int l.length),(12,int i)])
   (fun i=>eS p F (qZ ev V (l.take i) s).2++[.row false 46 3 i (zN (qZ ev V (l.take i) s).1)]) (fun i=>i≤l.length) (fun i=>l.length-i) 0 (by simp)
   ((zAE (t:=7) (by simp) 46 3).trans (zT [0,1] 0 (by decide) (by simp) (by simp[eS,hP,h00]) (by simp))) ?_
  intro i hi;by_cases hil:i<l.length
  ·have hsn:=zIQ ev V l[i] (l.take i) s;rw[←jA9 hil]at hsn;have hp1:=hpre (i+1) hil;rw[hsn]at hp1;have hr:=(h.ok l[i] V (qZ ev V (l.take i) s).2 (hpre i hi) (hA _ (jA3 hil) _) (hst i)).ret hp1;have hdr:=zBr hil;have hln:=hln i hi;generalize hFn:qZ ev V (l.take (i+1)) s=Fn at hsn;subst hsn;generalize hFi:qZ ev V (l.take i) s=Fi at *
   obtain⟨vs,si⟩:=Fi;simp only at *
   generalize ev l[i] V si=rk at *
   obtain⟨v,sk⟩:=rk;simp only at *
   simp[eS,hP,hil,hdr,hFi,zV];refine jO hr [0] (by decide) (by simp[eS,hP]) (by simp[zV]) ?_;simp[eS,hP,zC];refine⟨⟨by simp[maxLen]; omega,by omega⟩,?_⟩;exact zR (i+1) hil (by omega) (zT [0,1] 0 (by decide) (by simp) (by simp[eS,hP,hFn,zBg]) (by simp[qD hil hl]))
  ·have hil:i=l.length:=by omega
   subst hil;rw[htk];generalize qZ ev V l s=Fi at *
   obtain⟨vs,si⟩:=Fi;simp;exact zL [0] 1 (by decide) (by simp) (by simp[eS,hP]) (by simp[eS,hP])
 ·intro hf;obtain⟨k,hk,hk0,hk1⟩:=zKF h.stop V l s hs hf;have hpre:∀i,i≤k→(qZ ev V (l.take i) s).2.fail=0:=fun i hi=>zKG h.stop V l s i k hi hk0
  rw[←hk1]at hf ⊢;refine zEG Tryz.func176 rfl qIu (rs:=[.slot 6]) (by kernel_rfl) ?_;unfold qCk wpF;simp[eS,hP];intro hl;refine jQ (S:=Nat) (fun i=>[(0,.ptr 0 0),(2,scE V),(7,.row 1 i),(10,.sl l.length (jR l)),(11,int l.length),(12,int i)])
   (fun i=>eS p F (qZ ev V (l.take i) s).2++[.row false 46 3 i (zN (qZ ev V (l.take i) s).1)]) (fun i=>i≤k) (fun i=>l.length-i) 0 (by simp)
   ((zAE (t:=7) (by simp) 46 3).trans (zT [0,1] 0 (by decide) (by simp) (by simp[eS,hP,h00]) (by simp))) ?_
  intro i hi;have hil:i<l.length:=by omega
  have hdr:=zBr hil;have hok:=h.ok l[i] V (qZ ev V (l.take i) s).2 (hpre i hi) (hA _ (jA3 hil) _) (hst i);by_cases hik:i<k
  ·have hsn:=zIQ ev V l[i] (l.take i) s;rw[←jA9 hil]at hsn;have hp1:=hpre (i+1) hik;rw[hsn]at hp1;have hr:=hok.ret hp1;have hln:=hln i (by omega);generalize hFn:qZ ev V (l.take (i+1)) s=Fn at hsn;subst hsn;generalize hFi:qZ ev V (l.take i) s=Fi at *
   obtain⟨vs,si⟩:=Fi;simp only at *
   generalize ev l[i] V si=rk at *
   obtain⟨v,sk⟩:=rk;simp only at *
   simp[eS,hP,hil,hdr,hFi,zV];refine jO hr [0] (by decide) (by simp[eS,hP]) (by simp[zV]) ?_;simp[eS,hP,zC];refine⟨⟨by simp[maxLen]; omega,by omega⟩,?_⟩;exact zR (i+1) hik (by omega) (zT [0,1] 0 (by decide) (by simp) (by simp[eS,hP,hFn,zBg]) (by simp[qD hil hl]))
  ·have hik:i=k:=by omega
   subst hik;have hr:=hok.pan hf;generalize hFi:qZ ev V (l.take i) s=Fi at *
   obtain⟨vs,si⟩:=Fi;simp only at *
   simp[eS,hP,hil,hdr,hFi,zV];refine zHW hr [0] (by decide) (by simp[eS,hP]) (by simp[zV]) fun τ=>?_
   simp
def qCl:K:=G [kO 4 1,kZ 6 [ki,ki,kl]] (G [⟨none,.mov (some 7) (.const (.pointer none))⟩] (Z (G [D 10 4 8,L 11 10 1,kN 12 11,kMi 13 0] (K.block 0 (K.loop (G [kB 14 13 12 .lss] (Z (Y 14 ks (K.exit 0)) (Z (K.block 1 (G [M 15 13,kX 16 11 13 11,J 17 16 11,kZ 9 kz5,M 8 15,S 9 17 11] (K.dops [(0,0,M 18 7),(1,0,D 19 9 0),(2,0,J 20 19 3),(3,0,M 21 2),(4,0,M 22 8),(5,0,kX 23 21 22 3),(6,0,J 24 23 3),(7,0,kC 25 109 [(kt 18),(kt 20),(kc 0),(kt 24)]),(8,0,M 7 25)]))) (K.ops [kBi 26 13 1 .add,M 13 26]))))))) (G [M 27 0,D 28 4 14,J 29 28 15,M 30 7,kC 31 110 [(kt 27),(kt 29),(kt 30)],S 6 31 3] kr)))
theorem qIv:zQ prog Tryz.f72.ntmps (Tryz.f72.body.getD .skip)=some qCl.erase:=by kernel_rfl
@[simp] theorem qOY:zB prog 72=true:=by kernel_rfl
theorem zP8 (h:IhE p F m ev)(d:Dfn)(vs:List Val)(hl:vs.length=d.slots.length)(hd6:d.slots.length≤6)(hs:s.fail=0)(hA:Adm p d.body (zCG d.slots vs) {s with ds:=s.ds++[d.id]})(hB:Fu m s) :
 RP 72 [.ptr 0 0,.agg (zG d),.sl vs.length (zN vs)] p F s (.agg (zC (zAH ev d vs s).1)) (zAH ev d vs s).2:=by
 have hP:=eP p;have hx:zAH ev d vs s=ev d.body (zCG d.slots vs) {s with ds:=s.ds++[d.id]}:=by unfold zAH; rw[if_neg (by simp[hs])]
 rw[hx];have he:=h.ok _ _ _ (by exact hs) hA ((zLs m).dfn d.id s hB);generalize ev d.body (zCG d.slots vs) {s with ds:=s.ds++[d.id]}=r at *
 have hel:=zIf d.slots vs hl;have hall:(zCG d.slots vs).take d.slots.length=zCG d.slots vs:=by rw[←hel]; exact jB1
 constructor
 ·intro hf;refine zI Tryz.func72 rfl qIv (rs:=[.cell 6 3 true]) (by kernel_rfl) ?_;unfold qCl;simp[eS,hP,zG];intro hls;refine jQ (S:=Nat) (fun i=>[(0,.ptr 0 0),(2,.sl vs.length (zN vs)),(4,.ptr 1 0),(6,.ptr 2 0),(7,scE ((zCG d.slots vs).take i)),(11,.sl d.slots.length (yT d.slots)),(12,int d.slots.length),(13,int i)])
   (fun i=>eS p F s++[.box (zG d),.box [int 0,int 0,.nil]]) (fun i=>i≤d.slots.length) (fun i=>d.slots.length-i) 0 (by simp)
   (zT [0,1,2] 0 (by decide) (by simp) (by simp[eS,hP,zG]) (by simp)) ?_
  intro i hi;by_cases hil:i<d.slots.length
  ·have hiv:i<vs.length:=by omega
   have hdr:=jW hil;have hdv:=jI hiv;have htk:=zMT hl hil;have hw:=zC5 ((zCG d.slots vs).take i).reverse ⟨d.slots[i].id,0,vs[i]⟩;simp[eS,hP,hil,hiv,hdr,hdv,yQ];refine qU hw (by simp[zF,zC]) (by simp) ?_;simp;exact zR (i+1) hil (by omega) (zT [0,1,2] 0 (by decide) (by simp) (by simp[eS,hP,zG]) (by simp[qD hil hls,htk]))
  ·have hil:i=d.slots.length:=by omega
   subst hil;rw[hall];simp[eS,hP,zG];refine jO (he.ret hf) [0] (by decide) (by simp[eS,hP]) (by simp[zV]) ?_;simp[eS,hP,zC];exact zL [0] 0 (by decide) (by simp) (by simp) (by simp[zC])
 ·intro hf;refine zEG Tryz.func72 rfl qIv (rs:=[.cell 6 3 true]) (by kernel_rfl) ?_;unfold qCl wpF;simp[eS,hP,zG];intro hls;refine jQ (S:=Nat) (fun i=>[(0,.ptr 0 0),(2,.sl vs.length (zN vs)),(4,.ptr 1 0),(6,.ptr 2 0),(7,scE ((zCG d.slots vs).take i)),(11,.sl d.slots.length (yT d.slots)),(12,int d.slots.length),(13,int i)])
   (fun i=>eS p F s++[.box (zG d),.box [int 0,int 0,.nil]]) (fun i=>i≤d.slots.length) (fun i=>d.slots.length-i) 0 (by simp)
   (zT [0,1,2] 0 (by decide) (by simp) (by simp[eS,hP,zG]) (by simp)) ?_
  intro i hi;by_cases hil:i<d.slots.length
  ·have hiv:i<vs.length:=by omega
   have hdr:=jW hil;have hdv:=jI hiv;have htk:=zMT hl hil;have hw:=zC5 ((zCG d.slots vs).take i).reverse ⟨d.slots[i].id,0,vs[i]⟩;simp[eS,hP,hil,hiv,hdr,hdv,yQ];refine qU hw (by simp[zF,zC]) (by simp) ?_;simp;exact zR (i+1) hil (by omega) (zT [0,1,2] 0 (by decide) (by simp) (by simp[eS,hP,zG]) (by simp[qD hil hls,htk]))
  ·have hil:i=d.slots.length:=by omega
   subst hil;rw[hall];simp[eS,hP,zG];refine zHW (he.pan hf) [0] (by decide) (by simp[eS,hP]) (by simp[zV]) fun τ=>?_
   simp
end
section
variable {p:Prg}{c:Nat}{m:Int}{ev:Evl}{e:Exp}{V:List EVar}{s:XS}
def qCt (p:Prg):Prop:=∀d∈p.defs,d.slots.length≤6∧d.slots.Pairwise fun a b=>a.id≠b.id
theorem zTk {ss:List Slt}(hnd:ss.Pairwise fun a b=>a.id≠b.id)(vs:List Val)(hl:vs.length=ss.length):NdV (zCG ss vs):=by
 unfold NdV;rw[jCl];intro i j hi hj hij e;have hi':i<ss.length:=by rw[zIf ss vs hl]at hi; exact hi
 have hj':j<ss.length:=by rw[zIf ss vs hl]at hj; exact hj
 have:=jCl.1 hnd i j hi' hj' hij;have e1:(zCG ss vs)[i].id=ss[i].id:=by simp[zCG]
 have e2:(zCG ss vs)[j].id=ss[j].id:=by simp[zCG]
 exact this (by rw[←e1,←e2]; exact e.1)
end
section
variable {p:Prg}{c:Nat}{m:Int}{ev:Evl}{e:Exp}{V:List EVar}{s:XS}
end
def zAN (ev:Evl)(e:Exp)(V:List EVar)(v:Val)(s:XS):Val×XS :=
 if e.k=5 then ev (e.kids.getD (if v.n=1 then 1 else 2) .zero) V s
 else if e.k=6 then ev (e.kids.getD 1 .zero) (V++[⟨e.id,0,v⟩]) s
 else if e.k=8 then (v.kids.getD e.n.toNat vz,s)
 else if e.k=10 then ev (e.kids.getD (1+v.n).toNat .zero) (V++[⟨e.id,v.n,v.kids.headD vz⟩]) s
 else yH ev V e.id (e.kids.getD 2 .zero) v.kids (ev (e.kids.getD 1 .zero) V s)
theorem zUf {ev:Evl}{e:Exp}{V:List EVar}{s:XS}(h:(ev (e.kids.headD .zero) V s).2.fail=0):yE ev e V s=zAN ev e V (ev (e.kids.headD .zero) V s).1 (ev (e.kids.headD .zero) V s).2:=by unfold yE zAN;rw[if_neg (fun hn=>hn h)]
section
variable {p:Prg}{F m:Int}{ev:Evl}{B:List Bnd}{e:Exp}{V:List EVar}{v:Val}{s:XS}
def zIN:K:=G [kO 5 1,kO 7 3,kZ 8 [ki,ki,kl]] (Z (G [D 12 5 3,L 13 12 1] (K.block 0 (G [kQi 15 13 5 false,M 14 15] (Y 14 (Z (G [D 16 7 1,L 17 16 1,kQi 18 17 0 true] (Y 18 (G [M 19 0,D 20 5 13,L 21 20 1,kXi 22 21 15 1,J 23 22 15,M 24 2,kC 25 110 [(kt 19),(kt 23),(kt 24)],S 8 25 3] kr) ks)) (G [M 26 0,D 27 5 13,L 28 27 1,kXi 29 28 15 2,J 30 29 15,M 31 2,kC 32 110 [(kt 26),(kt 30),(kt 31)],S 8 32 3] kr)) (G [kQi 34 13 6 false,M 33 34] (Y 33 (Z (K.dops [(0,0,M 35 0),(1,0,D 36 5 13),(2,0,L 37 36 1),(3,0,kXi 38 37 15 1),(4,0,J 39 38 15),(5,0,M 40 2),(6,0,D 41 5 0),(7,0,J 42 41 3),(8,0,J 43 7 3),(9,0,kC 44 109 [(kt 40),(kt 42),(kc 0),(kt 43)]),(10,10,kC 45 110 [(kt 35),(kt 39),(kt 44)]),(11,0,S 8 45 3)]) kr) (G [kQi 47 13 8 false,M 46 47] (Y 46 (G [D 48 7 2,L 49 48 1,D 50 5 4,L 51 50 1,kX 52 49 51 3,J 53 52 3,S 8 53 3] kr) (G [kQi 55 13 10 false,M 54 55] (Y 54 (Z (K.dops [(0,0,M 56 0),(1,0,D 57 5 13),(2,0,L 58 57 1),(3,0,D 59 7 1),(4,0,L 60 59 1),(5,0,⟨none,.bin (some 61) .add (kc 1) (kt 60)⟩),(6,0,kX 62 58 61 15),(7,0,J 63 62 15),(8,0,M 64 2),(9,0,D 65 5 0),(10,0,J 66 65 3),(11,0,D 67 7 1),(12,0,L 68 67 1),(13,0,D 69 7 2),(14,0,L 70 69 1),(15,0,kXi 71 70 3 0),(16,0,J 72 71 3),(17,0,kC 73 109 [(kt 64),(kt 66),(kt 68),(kt 72)]),(18,10,kC 74 110 [(kt 56),(kt 63),(kt 73)]),(19,0,S 8 74 3)]) kr) ks)))))))))) (G [M 75 0,D 76 5 13,L 77 76 1,kXi 78 77 15 1,J 79 78 15,M 80 2,kC 81 110 [(kt 75),(kt 79),(kt 80)],kZ 9 [ki,ki,kl],S 9 81 3] (Z (G [D 82 7 2,
 L 83 82 1,kN 84 83,kMi 85 0] (K.block 1 (K.loop (G [kB 86 85 84 .lss] (Z (Y 86 ks (K.exit 1)) (Z (K.block 2 (G [kX 87 83 85 3,J 88 87 3,kZ 11 [ki,ki,kl],S 11 88 3] (K.dops [(0,0,M 89 0),(1,0,D 90 5 13),(2,0,L 91 90 1),(3,0,kXi 92 91 15 2),(4,0,J 93 92 15),(5,0,M 94 2),(6,0,D 95 5 0),(7,0,J 96 95 3),(8,0,J 97 11 3),(9,0,kC 98 109 [(kt 94),(kt 96),(kc 0),(kt 97)]),(10,0,D 99 5 0),(11,0,J 100 99 3),(12,0,J 101 9 3),(13,0,kC 102 109 [(kt 98),(kt 100),(kc 1),(kt 101)]),(14,10,kC 103 110 [(kt 89),(kt 93),(kt 102)]),(15,0,S 9 103 3)]))) (K.ops [kBi 104 85 1 .add,M 85 104]))))))) (G [J 105 9 3,S 8 105 3] kr))))
def qQs:Nat→Option (List (Nat×Nat)):=fun r=>match r with | 7=>some [(0,0),(1,0),(2,0),(3,0),(4,0),(5,0),(6,0),(7,0),(8,0),(9,0),(10,10),(11,0)] | 11=>some [(0,0),(1,0),(2,0),(3,0),(4,0),(5,0),(6,0),(7,0),(8,0),(9,0),(10,0),(11,0),(12,0),(13,0),(14,0),(15,0),(16,0),(17,0),(18,10),(19,0)] | 16=>some [(0,0),(1,0),(2,0),(3,0),(4,0),(5,0),(6,0),(7,0),(8,0),(9,0),(10,0),(11,0),(12,0),(13,0),(14,10),(15,0)] | _=>none
theorem zKt:qG prog Tryz.f178.ntmps qQs (Tryz.f178.body.getD .skip)=some zIN.erase:=by kernel_rfl
@[simp] theorem qOX:zB prog 178=true:=by kernel_rfl
abbrev BrE (p:Prg)(F:Int)(e:Exp)(V:List EVar)(v:Val)(s:XS)(r:Val×XS):Prop:=RP 178 [.ptr 0 0,.agg (zV e),scE V,.agg (zC v)] p F s (.agg (zC r.1)) r.2
theorem zYT {a b d:Exp}{x:Int}(hx:x=0∨x=1)(hk:e.k=5)(hks:e.kids=[a,b,d])(hb:zMs p F b V s (ev b V s))(hd:zMs p F d V s (ev d V s)):BrE p F e V (.mk 1 x []) s (zAN ev e V (.mk 1 x []) s):=by
 have hP:=eP p;have hY:zAN ev e V (.mk 1 x []) s=ev (if x=1 then b else d) V s:=by unfold zAN;rw[hks];rcases hx with rfl | rfl<;>simp[hk,qF]
 rw[hY];rcases hx with rfl | rfl
 ·rw[if_neg (by decide)];generalize ev d V s=r at *
  constructor
  ·intro hf;refine qP Tryz.func178 rfl zKt (rs:=[.cell 8 3 true]) (by kernel_rfl) ?_;unfold zIN;simp[eS,hP,zV,zC,hk,hks,qE,qX,qF,zS];refine jO (hd.ret hf) [0] (by decide) (by simp[eS,hP]) (by simp[zV]) ?_;simp[eS,hP,zC];exact zL [0] 0 (by decide) (by simp) (by simp) (by simp[zC])
  ·intro hf;refine zAu Tryz.func178 rfl zKt (rs:=[.cell 8 3 true]) (by kernel_rfl) ?_;unfold zIN wpF;simp[eS,hP,zV,zC,hk,hks,qE,qX,qF,zS];refine zHW (hd.pan hf) [0] (by decide) (by simp[eS,hP]) (by simp[zV]) fun τ=>?_
   simp
 ·rw[if_pos rfl];generalize ev b V s=r at *
  constructor
  ·intro hf;refine qP Tryz.func178 rfl zKt (rs:=[.cell 8 3 true]) (by kernel_rfl) ?_;unfold zIN;simp[eS,hP,zV,zC,hk,hks,qE,qX,qF,zS];refine jO (hb.ret hf) [0] (by decide) (by simp[eS,hP]) (by simp[zV]) ?_;simp[eS,hP,zC];exact zL [0] 0 (by decide) (by simp) (by simp) (by simp[zC])
  ·intro hf;refine zAu Tryz.func178 rfl zKt (rs:=[.cell 8 3 true]) (by kernel_rfl) ?_;unfold zIN wpF;simp[eS,hP,zV,zC,hk,hks,qE,qX,qF,zS];refine zHW (hb.pan hf) [0] (by decide) (by simp[eS,hP]) (by simp[zV]) fun τ=>?_
   simp
theorem zYU {a b:Exp}(hk:e.k=6)(hks:e.kids=[a,b])(hb:zMs p F b (V++[⟨e.id,0,v⟩]) s (ev b (V++[⟨e.id,0,v⟩]) s)):BrE p F e V v s (zAN ev e V v s):=by
 have hP:=eP p;have hY:zAN ev e V v s=ev b (V++[⟨e.id,0,v⟩]) s:=by unfold zAN;rw[hks];simp[hk]
 rw[hY];generalize ev b (V++[⟨e.id,0,v⟩]) s=r at *
 have hw:=zC5 V.reverse ⟨e.id,0,v⟩;constructor
 ·intro hf;refine qP Tryz.func178 rfl zKt (rs:=[.cell 8 3 true]) (by kernel_rfl) ?_;unfold zIN;simp[eS,hP,zV,zC,hk,hks,qE,qX,qF,zS];refine qU hw (by simp[zF,zC]) (by simp) ?_;simp[eS,hP];refine zCq (hb.ret hf) [0] (by decide) (by simp[eS,hP]) (by simp[zV]) ?_;simp[eS,hP,zC];exact zL [0] 0 (by decide) (by simp) (by simp) (by simp[zC])
 ·intro hf;refine zAu Tryz.func178 rfl zKt (rs:=[.cell 8 3 true]) (by kernel_rfl) ?_;unfold zIN wpF;simp[eS,hP,zV,zC,hk,hks,qE,qX,qF,zS];refine qU hw (by simp[zF,zC]) (by simp) ?_;simp[eS,hP];refine zDx (hb.pan hf) [0] (by decide) (by simp[eS,hP]) (by simp[zV]) fun τ=>?_
  simp
theorem zUq {a:Exp}{vs:List Val}{j:Nat}(hk:e.k=8)(hn:e.n=j)(hs:s.fail=0)(hj:j<vs.length)(hks:e.kids=[a]):BrE p F e V (.mk 2 0 vs) s (zAN ev e V (.mk 2 0 vs) s):=by
 have hP:=eP p;have hY:zAN ev e V (.mk 2 0 vs) s=(vs[j],s):=by unfold zAN;simp[hk,hn,zS,hj]
 rw[hY];refine⟨fun _=>?_,fun hf=>(hf hs).elim⟩;refine qP Tryz.func178 rfl zKt (rs:=[.cell 8 3 true]) (by kernel_rfl) ?_;unfold zIN;simp[eS,hP,zV,zC,hk,hks,qE,qX,qF,zS,hn,hj,jI hj];exact zL [0] 0 (by decide) (by simp) (by simp) (by simp[zC])
theorem zUr {a:Exp}{ks:List Exp}{q:Nat}{x:Val}(hk:e.k=10)(hks:e.kids=a::ks)(hq:q<ks.length)(hl6:ks.length≤32768)(hb:zMs p F ks[q] (V++[⟨e.id,q,x⟩]) s (ev ks[q] (V++[⟨e.id,q,x⟩]) s)):BrE p F e V (.mk 3 q [x]) s (zAN ev e V (.mk 3 q [x]) s):=by
 have hP:=eP p;have e2:(1+(q:Int)).toNat=q+1:=by omega
 have hw1:IntKind.i64.wrap (1+(q:Int))=((q+1:Nat):Int):=by rw[IntWalk.i64_in _ (by omega)]; omega
 have hY:zAN ev e V (.mk 3 q [x]) s=ev ks[q] (V++[⟨e.id,q,x⟩]) s:=by unfold zAN;rw[hks];simp[hk,qF,zS,e2,hq]
 rw[hY];generalize ev ks[q] (V++[⟨e.id,q,x⟩]) s=r at *
 have hw:=zC5 V.reverse ⟨e.id,q,x⟩;have hdr:(jR (a::ks)).drop ((q+1)*15)=zV ks[q]++jR (ks.drop (q+1)):=by
  have:=zBr (l:=a::ks) (i:=q+1) (by simpa using hq)
  simpa using this
 have hlt:q+1<(a::ks).length:=by simpa using hq
 generalize hQ:a::ks=Q at *
 obtain⟨M,hM⟩:∃M,M=q+1:=⟨_,rfl⟩;rw[←hM]at hw1 hdr hlt;constructor
 ·intro hf;refine qP Tryz.func178 rfl zKt (rs:=[.cell 8 3 true]) (by kernel_rfl) ?_;unfold zIN;simp[eS,hP,zV,zC,hk,hks,qX,qF,zS,hw1,hlt,hdr];refine qU hw (by simp[zF,zC]) (by simp) ?_;simp[eS,hP];refine zCq (hb.ret hf) [0] (by decide) (by simp[eS,hP]) (by simp[zV]) ?_;simp[eS,hP,zC];exact zL [0] 0 (by decide) (by simp) (by simp) (by simp[zC])
 ·intro hf;refine zAu Tryz.func178 rfl zKt (rs:=[.cell 8 3 true]) (by kernel_rfl) ?_;unfold zIN wpF;simp[eS,hP,zV,zC,hk,hks,qX,qF,zS,hw1,hlt,hdr];refine qU hw (by simp[zF,zC]) (by simp) ?_;simp[eS,hP];refine zDx (hb.pan hf) [0] (by decide) (by simp[eS,hP]) (by simp[zV]) fun τ=>?_
  simp
theorem zW3 {l z b:Exp}{vs:List Val}(h:zDh ev)(hk:e.k=12)(hks:e.kids=[l,z,b])(hz:zMs p F z V s (ev z V s))(hb:∀x a s',s'.fail=0→(∃i,(yH ev V e.id b (vs.take i) (ev z V s))=(a,s')∧vs[i]?=some x)→zMs p F b (V++[⟨e.id,0,x⟩]++[⟨e.id,1,a⟩]) s' (ev b (V++[⟨e.id,0,x⟩]++[⟨e.id,1,a⟩]) s')) :
 BrE p F e V (.mk 4 0 vs) s (zAN ev e V (.mk 4 0 vs) s):=by
 have hP:=eP p;have hY:zAN ev e V (.mk 4 0 vs) s=yH ev V e.id b vs (ev z V s):=by unfold zAN;rw[hks];simp[hk,zS]
 rw[hY];have htk:vs.take vs.length=vs:=jB1;generalize ev z V s=r at *
 by_cases hr0:r.2.fail=0
 ·have hz:=hz.ret hr0;constructor
  ·intro hf;have hpre:∀i,i≤vs.length→(yH ev V e.id b (vs.take i) r).2.fail=0:=fun i hi=>zJi h V e.id b vs r i vs.length hi (by rw[htk]; exact hf)
   refine qP Tryz.func178 rfl zKt (rs:=[.cell 8 3 true]) (by kernel_rfl) ?_;unfold zIN;simp[eS,hP,zV,zC,hk,hks,qE,qX,qF,zS];refine jO hz [0] (by decide) (by simp[eS,hP]) (by simp[zV]) ?_;simp[eS,hP,zC];intro hls;refine jQ (S:=Nat) (fun i=>[(0,.ptr 0 0),(2,scE V),(5,.ptr 1 0),(8,.ptr 3 0),(9,.ptr 4 0),(83,.sl vs.length (zN vs)),(84,int vs.length),(85,int i)])
    (fun i=>eS p F (yH ev V e.id b (vs.take i) r).2++[.box (zV e),.box (zC (.mk 4 0 vs)),.box [int 0,int 0,.nil],.box (zC (yH ev V e.id b (vs.take i) r).1)]) (fun i=>i≤vs.length) (fun i=>vs.length-i) 0 (by simp)
    (zT [0,1,2,3,4] 0 (by decide) (by simp) (by simp[eS,hP,zV,zC,hks,qE,hk,yH,qX,qF,zS]) (by simp)) ?_
   intro i hi;by_cases hil:i<vs.length
   ·have hw0:=zC5 V.reverse ⟨e.id,0,vs[i]⟩;have hsn:=zH4 ev V e.id b vs[i] (vs.take i) r;rw[←jA9 hil]at hsn;have hdr:=jI hil;have HP1:=hpre (i+1) hil;have hok:=hb vs[i] _ _ (hpre i hi) ⟨i,rfl,jA2 hil⟩;generalize hFn:yH ev V e.id b (vs.take (i+1)) r=Fn at hsn HP1;subst hsn;generalize hFi:yH ev V e.id b (vs.take i) r=Fi at *
    obtain⟨acc,si⟩:=Fi;simp only at *
    have hw1:=zC5 (⟨e.id,0,vs[i]⟩::V.reverse) ⟨e.id,1,acc⟩;generalize ev b (V++[⟨e.id,0,vs[i]⟩]++[⟨e.id,1,acc⟩]) si=rk at *
    obtain⟨v',sk⟩:=rk;simp only at *
    simp[eS,hP,zV,zC,hil,hdr,hks,qE,hFi,qX,qF,zS];refine qU hw0 (by simp[zF,zC]) (by simp) ?_;simp[eS,hP];refine qU hw1 (by simp[zF,zC]) (by simp) ?_;simp[eS,hP];refine zCq (hok.ret HP1) [0] (by decide) (by simp[eS,hP]) (by simp[zV]) ?_;simp[eS,hP,zC];exact zR (i+1) hil (by omega) (zT [0,1,2,3,4] 0 (by decide) (by simp) (by simp[eS,hP,zV,zC,hks,qE,hFn,hk,qX,qF,zS]) (by simp[qD hil hls]))
   ·have hil:i=vs.length:=by omega
    subst hil;rw[htk];simp[eS,hP,zC];exact zL [0] 0 (by decide) (by simp) (by simp) (by simp[zC])
  ·intro hf;obtain⟨k,hk1,hk0,hk2⟩:=zJX h V e.id b vs r hr0 hf;have hpre:∀i,i≤k→(yH ev V e.id b (vs.take i) r).2.fail=0:=fun i hi=>zJi h V e.id b vs r i k hi hk0
   rw[←hk2]at hf ⊢;refine zAu Tryz.func178 rfl zKt (rs:=[.cell 8 3 true]) (by kernel_rfl) ?_;unfold zIN wpF;simp[eS,hP,zV,zC,hk,hks,qE,qX,qF,zS];refine jO hz [0] (by decide) (by simp[eS,hP]) (by simp[zV]) ?_;simp[eS,hP,zC];intro hls;refine jQ (S:=Nat) (fun i=>[(0,.ptr 0 0),(2,scE V),(5,.ptr 1 0),(8,.ptr 3 0),(9,.ptr 4 0),(83,.sl vs.length (zN vs)),(84,int vs.length),(85,int i)])
    (fun i=>eS p F (yH ev V e.id b (vs.take i) r).2++[.box (zV e),.box (zC (.mk 4 0 vs)),.box [int 0,int 0,.nil],.box (zC (yH ev V e.id b (vs.take i) r).1)]) (fun i=>i≤k) (fun i=>vs.length-i) 0 (by simp)
    (zT [0,1,2,3,4] 0 (by decide) (by simp) (by simp[eS,hP,zV,zC,hks,qE,hk,yH,qX,qF,zS]) (by simp)) ?_
   intro i hi;have hil:i<vs.length:=by omega
   have hw0:=zC5 V.reverse ⟨e.id,0,vs[i]⟩;have hsn:=zH4 ev V e.id b vs[i] (vs.take i) r;rw[←jA9 hil]at hsn;have hdr:=jI hil;have hok:=hb vs[i] _ _ (hpre i hi) ⟨i,rfl,jA2 hil⟩;by_cases hik:i<k
   ·have HP1:=hpre (i+1) hik;generalize hFn:yH ev V e.id b (vs.take (i+1)) r=Fn at hsn HP1;subst hsn;generalize hFi:yH ev V e.id b (vs.take i) r=Fi at *
    obtain⟨acc,si⟩:=Fi;simp only at *
    have hw1:=zC5 (⟨e.id,0,vs[i]⟩::V.reverse) ⟨e.id,1,acc⟩;generalize ev b (V++[⟨e.id,0,vs[i]⟩]++[⟨e.id,1,acc⟩]) si=rk at *
    obtain⟨v',sk⟩:=rk;simp only at *
    simp[eS,hP,zV,zC,hil,hdr,hks,qE,hFi,qX,qF,zS];refine qU hw0 (by simp[zF,zC]) (by simp) ?_;simp[eS,hP];refine qU hw1 (by simp[zF,zC]) (by simp) ?_;simp[eS,hP];refine zCq (hok.ret HP1) [0] (by decide) (by simp[eS,hP]) (by simp[zV]) ?_;simp[eS,hP,zC];exact zR (i+1) hik (by omega) (zT [0,1,2,3,4] 0 (by decide) (by simp) (by simp[eS,hP,zV,zC,hks,qE,hFn,hk,qX,qF,zS]) (by simp[qD hil hls]))
   ·have hik:i=k:=by omega
    subst hik;have HP1:=hf;generalize hFn:yH ev V e.id b (vs.take (i+1)) r=Fn at hsn HP1;subst hsn;generalize hFi:yH ev V e.id b (vs.take i) r=Fi at *
    obtain⟨acc,si⟩:=Fi;simp only at *
    have hw1:=zC5 (⟨e.id,0,vs[i]⟩::V.reverse) ⟨e.id,1,acc⟩;generalize ev b (V++[⟨e.id,0,vs[i]⟩]++[⟨e.id,1,acc⟩]) si=rk at *
    obtain⟨v',sk⟩:=rk;simp only at *
    simp[eS,hP,zV,zC,hil,hdr,hks,qE,hFi,qX,qF,zS];refine qU hw0 (by simp[zF,zC]) (by simp) ?_;simp[eS,hP];refine qU hw1 (by simp[zF,zC]) (by simp) ?_;simp[eS,hP];refine zDx (hok.pan HP1) [0] (by decide) (by simp[eS,hP]) (by simp[zV]) fun τ=>?_
    simp
 ·have hx:(yH ev V e.id b vs r).2=r.2:=zCP h V e.id b vs r hr0;unfold BrE;rw[hx];refine⟨fun hf=>(hr0 hf).elim,fun hf=>?_⟩;refine zAu Tryz.func178 rfl zKt (rs:=[.cell 8 3 true]) (by kernel_rfl) ?_;unfold zIN wpF;simp[eS,hP,zV,zC,hk,hks,qE,qX,qF,zS];refine zHW (hz.pan hf) [0] (by decide) (by simp[eS,hP]) (by simp[zV]) fun τ=>?_
  simp
end
structure Res where
 v:Val
 ds:List Id
 ns:List Id
 e:Int
def zEI (p:Prg)(d:Dfn)(vs:List Val)(fuel:Int):Val×XS:=zAH (jU p 1 fuel.toNat) d vs ⟨fuel,0,zSu p d.slots [],[]⟩
theorem zJg {P:Prg}:∀{ts:List Typ} {vs:List Val},vs.length=ts.length→(∀(j:Nat) (h1:j<ts.length) (h2:j<vs.length),zAj P ts[j] vs[j]=true)→zAP P ts vs=true
 | [],[],_,_=>rfl
 | t::ts,v::vs,hl,h=>by rw[zAP,jA4];exact⟨h 0 (by simp) (by simp),zJg (by simpa using hl) fun j h1 h2=>h (j+1) (by simpa using h1) (by simpa using h2)⟩
 | [],v::vs,hl,_=>by simp at hl
 | t::ts,[],hl,_=>by simp at hl
theorem zUd {d:Dfn}(h:zOb d.kind=true):zHp d=true:=by simp[zOb]at h;simp[zHp];omega
theorem zUe {p:Prg}{hs:List Hd}(hf:Fit p hs):qCt p:=fun d hd=>⟨(hf.slots d hd).2.1,(hf.slots d hd).2.2.2.1⟩
def uS (p:Prg)(F:Int)(s:XS):St:=[.box (zK p++[int F,int (F-s.fuel),int s.fail])]
@[simp] theorem qPV:zB prog 171=true:=by kernel_rfl
@[simp] theorem qPW:zB prog 186=true:=by kernel_rfl
@[simp] theorem qPU:zB prog 142=true:=by kernel_rfl
section
variable {p:Prg}{F:Int}{c:Nat}{m:Int}{ev:Evl}{e:Exp}{V:List EVar}{s:XS}
@[simp] theorem qPP:zB prog 199=true:=by kernel_rfl
@[simp] theorem qPQ:zB prog 142=true:=by kernel_rfl
end
section
variable {p:Prg}{c:Nat}{m:Int}{ev:Evl}{e:Exp}{V:List EVar}{s:XS}
section
end
end
theorem zZ8 {p:Prg}{hs:List Hd}(hf:Fit p hs){r:Nat}{t:Typ}(ht:TyOk hs r t){x:Id}:Nam t x→x∈p.defs.map Dfn.id:=by
 induction ht with
 | int r=>intro hx; cases hx with
  | here _ h=>simp at h
  | kid _ k x h=>simp at h
 | bool r=>intro hx; cases hx with
  | here _ h=>simp at h
  | kid _ k x h=>simp at h
 | list r t h ih=>intro hx; cases hx with
  | here _ h=>simp at h
  | kid _ k x h hx' =>
   simp only[Typ.kids_mk,jAp]at h;subst h;exact ih hx'
 | dfn r k h h1 h2 h3 h4 ih=>intro hx; cases hx with
  | here _ h' =>
   obtain⟨d,hd,_⟩:=hf.hd k h;obtain⟨a,b⟩:=zAk hd;exact jAm.2 ⟨d,a,b⟩
  | kid _ k x h=>simp at h
structure RS (p:Prg)(L:List Id):Prop where
 ss:SS L
 sub:∀x∈L,x∈p.defs.map Dfn.id
theorem RS.len {p:Prg}{hs:List Hd}(hf:Fit p hs){L:List Id}(h:RS p L):L.length≤100:=by
 have hn:L.Nodup:=by have:=h.ss;unfold SS at this;exact this.imp fun {a b} hab e=>by subst e; simp[zA7]at hab
 have:=hn.length_le_of_subset (l₂:=p.defs.map Dfn.id) h.sub;have:=hf.len8;simp at *
 omega
theorem RS.nam {p:Prg}{hs:List Hd}(hf:Fit p hs){L:List Id}(h:RS p L){r:Nat}{t:Typ}(ht:TyOk hs r t):RS p (zQx t L) :=
 ⟨zTA t L h.ss,fun x hx=>by
  rcases (zQy t L x).1 hx with hx | hx
  ·exact h.sub x hx
  ·exact zZ8 hf ht hx⟩
theorem RS.fold {p:Prg} {α : Type}(g : α→List Id→List Id):∀(l:List α) (L:List Id),(∀a∈l,∀L,RS p L→RS p (g a L))→RS p L→RS p (l.foldl (fun L a=>g a L) L)
 | [],L,_,h=>h
 | a::l,L,hg,h=>by rw[jBe];exact RS.fold g l _ (fun b hb=>hg b (by simp[hb])) (hg a (by simp) L h)
section
variable {p:Prg}{F m:Int}{ev:Evl}{B:List Bnd}{e:Exp}{V:List EVar}{v:Val}{s:XS}
def zFF:K:=G [kO 4 1,kZ 6 [ki,ki,kl]] (Z (G [D 9 4 3,L 10 9 1] (K.block 0 (G [kQi 12 10 0 false,M 11 12] (Y 11 (G [D 13 4 4,L 14 13 1,kb 15 [ki,ki,kl] [(1,1,(kt 14))],S 6 15 3] kr) (G [kQi 17 10 1 false,M 16 17] (Y 16 (G [D 18 4 4,L 19 18 1,kQi 20 19 0 true,kC 21 174 [(kt 20)],S 6 21 3] kr) (G [kQi 23 10 2 false,M 22 23] (Y 22 (G [M 24 2,D 25 4 5,J 26 25 3,D 27 4 4,L 28 27 1,kb 29 qJV [(0,3,(kt 26)),(3,1,(kt 28))],kC 30 175 [(kt 24),(kt 29)],S 6 30 3] kr) (G [kQi 32 10 3 false,M 31 32] (Y 31 (Z (K.dops [(0,0,M 34 0),(1,0,kU 35 34),(2,1,D 36 35 0),(3,1,J 37 36 2),(4,1,D 38 4 5),(5,1,J 39 38 3),(6,1,kC 40 96 [(kt 37),(kt 39)]),(7,0,M 33 40),(8,0,kE 41 33 0),(9,0,kE 42 33 1),(10,0,kZ 7 kz0),(11,0,S 7 41 31),(12,0,M 8 42)]) (Z (K.wk (K.dops [(0,0,M 43 0),(1,2,J 44 7 31),(2,0,M 45 0),(3,0,D 46 4 13),(4,0,L 47 46 1),(5,0,M 48 2),(6,10,kC 49 176 [(kt 45),(kt 47),(kt 48)]),(7,10,kC 50 72 [(kt 43),(kt 44),(kt 49)]),(8,0,S 6 50 3)])) kr)) (G [kQi 52 10 4 false,M 51 52] (Y 51 (Z (K.wk (K.dops [(0,2,D 53 4 4),(1,2,L 54 53 1),(2,0,M 55 0),(3,0,D 56 4 13),(4,0,L 57 56 1),(5,0,M 58 2),(6,10,kC 59 176 [(kt 55),(kt 57),(kt 58)]),(7,0,kC 60 177 [(kt 54),(kt 59)]),(8,0,S 6 60 3)])) kr) (G [kQi 62 10 7 false,M 61 62] (Y 61 (G [M 63 0,D 64 4 13,L 65 64 1,M 66 2,kC 67 176 [(kt 63),(kt 65),(kt 66)],kb 68 [ki,ki,kl] [(0,1,(kc 2)),(2,1,(kt 67))],S 6 68 3] kr) (G [kQi 70 10 9 false,M 69 70] (Y 69 (Z (K.wk (K.dops [(0,2,D 71 4 4),(1,2,L 72 71 1),(2,0,M 73 0),(3,0,D 74 4 13),(4,0,L 75 74 1),(5,0,
 M 76 2),(6,10,kC 77 176 [(kt 73),(kt 75),(kt 76)]),(7,0,kb 78 [ki,ki,kl] [(0,1,(kc 3)),(1,1,(kt 72)),(2,1,(kt 77))]),(8,0,S 6 78 3)])) kr) (G [kQi 80 10 11 false,M 79 80] (Y 79 (G [M 81 0,D 82 4 13,L 83 82 1,M 84 2,kC 85 176 [(kt 81),(kt 83),(kt 84)],kb 86 [ki,ki,kl] [(0,1,(kc 4)),(2,1,(kt 85))],S 6 86 3] kr) ks)))))))))))))))))) (Z (K.wk (K.dops [(0,0,M 87 0),(1,2,J 88 4 15),(2,0,M 89 2),(3,0,M 90 0),(4,0,D 91 4 13),(5,0,L 92 91 1),(6,0,kXi 93 92 15 0),(7,0,J 94 93 15),(8,0,M 95 2),(9,10,kC 96 110 [(kt 90),(kt 94),(kt 95)]),(10,10,kC 97 178 [(kt 87),(kt 88),(kt 89),(kt 96)]),(11,0,S 6 97 3)])) kr))
def qQu:Nat→Option (List (Nat×Nat)):=fun r=>match r with | 10=>some [(0,0),(1,2),(2,0),(3,0),(4,0),(5,0),(6,10),(7,10),(8,0)] | 12=>some [(0,2),(1,2),(2,0),(3,0),(4,0),(5,0),(6,10),(7,0),(8,0)] | 16=>some [(0,2),(1,2),(2,0),(3,0),(4,0),(5,0),(6,10),(7,0),(8,0)] | 19=>some [(0,0),(1,2),(2,0),(3,0),(4,0),(5,0),(6,0),(7,0),(8,0),(9,10),(10,10),(11,0)] | _=>none
theorem zFQ:qG prog Tryz.f150.ntmps qQu (Tryz.f150.body.getD .skip)=some zFF.erase:=by kernel_rfl
@[simp] theorem qPm:zB prog 150=true:=by kernel_rfl
abbrev VaE (p:Prg)(F:Int)(e:Exp)(V:List EVar)(s:XS)(r:Val×XS):Prop:=RP 150 [.ptr 0 0,.agg (zV e),scE V] p F s (.agg (zC r.1)) r.2
abbrev AlE (p:Prg)(F:Int)(e:Exp)(V:List EVar)(s:XS)(r:List Val×XS):Prop:=RP 176 [.ptr 0 0,.sl e.kids.length (jR e.kids),scE V] p F s (.sl e.kids.length (zN r.1)) r.2
@[simp] theorem qF5 {σ : St}:zDe 2 σ = []:=rfl
theorem zZh (hs:s.fail=0)(hk:e.k=0):VaE p F e V s (.mk 0 e.n [],s):=by have hP:=eP p;refine⟨fun _=>?_,fun hf=>(hf hs).elim⟩;refine qP Tryz.func150 rfl zFQ (rs:=[.cell 6 3 true]) (by kernel_rfl) ?_;unfold zFF;simp[eS,hP,zV,hk];exact zL [0] 0 (by decide) (by simp) (by simp) (by simp[zC,qX,qF,zS])
theorem zWN (hs:s.fail=0)(hk:e.k=1)(hn:e.n=0∨e.n=1):VaE p F e V s (.mk 1 e.n [],s):=by
 have hP:=eP p;have ht:zBZ (decide (¬e.n=0))=.mk 1 e.n []:=by rcases hn with h | h<;>rw[h]<;>rfl
 refine⟨fun _=>?_,fun hf=>(hf hs).elim⟩;have hb:=zAU (decide (¬e.n=0));rw[ht]at hb;refine qP Tryz.func150 rfl zFQ (rs:=[.cell 6 3 true]) (by kernel_rfl) ?_;unfold zFF;simp[eS,hP,zV,hk];refine qA hb (by simp) (by simp[zC]) ?_;simp[eS,hP,zC];exact zL [0] 0 (by decide) (by simp) (by simp) (by simp[zC,qX,qF,zS])
theorem zZj (hs:s.fail=0)(hk:e.k=2):VaE p F e V s (zE6 V e.ref e.n,s):=by
 have hP:=eP p;have hfi:=zWA V.reverse e.ref e.n;have hfe:zJT V.reverse e.ref e.n=zE6 V e.ref e.n:=rfl;rw[hfe]at hfi;generalize zE6 V e.ref e.n=v at *
 refine⟨fun _=>?_,fun hf=>(hf hs).elim⟩;refine qP Tryz.func150 rfl zFQ (rs:=[.cell 6 3 true]) (by kernel_rfl) ?_;unfold zFF;simp[eS,hP,zV,hk];refine qA hfi (by simp[zF]) (by simp[zC]) ?_;simp[eS,hP,zC];exact zL [0] 0 (by decide) (by simp) (by simp) (by simp[zC,qX,qF,zS])
theorem qDq {a:Exp}{ks:List Exp}(hk:e.k=5∨e.k=6∨e.k=8∨e.k=10∨e.k=12)(hks:e.kids=a::ks){r1 r:Val×XS}(ha:zMs p F a V s r1)(hb:r1.2.fail=0→BrE p F e V r1.1 r1.2 r)(hx:r1.2.fail≠0→r.2=r1.2):VaE p F e V s r:=by
 have hP:=eP p;have hk0:¬e.k=0:=by omega
 have hk1:¬e.k=1:=by omega
 have hk2:¬e.k=2:=by omega
 have hk3:¬e.k=3:=by omega
 have hk4:¬e.k=4:=by omega
 have hk7:¬e.k=7:=by omega
 have hk9:¬e.k=9:=by omega
 have hk11:¬e.k=11:=by omega
 have h15:=qE a ks;by_cases h1:r1.2.fail=0
 ·have hb:=hb h1;have ha:=ha.ret h1;constructor
  ·intro hf;refine qP Tryz.func150 rfl zFQ (rs:=[.cell 6 3 true]) (by kernel_rfl) ?_;unfold zFF;simp[eS,hP,zV,hk0,hk1,hk2,hk3,hk4,hk7,hk9,hk11];refine⟨_,_,zT (l:=[(0,.ptr 0 0),(2,scE V),(4,.rptr [int e.id.a,int e.id.b,int e.id.c,int e.k,int e.n,int e.ref.a,int e.ref.b,int e.ref.c,int e.typ.k,int e.typ.id.a,int e.typ.id.b,int e.typ.id.c,.sl e.typ.kids.length (yA e.typ.kids),.sl e.kids.length (jR e.kids),.sl e.names.length (zAJ e.names)]),(6,.ptr 1 0)]) (σ':=eS p F s++[.box [int 0,int 0,.nil]]) [0,2] 1 (by decide) (by simp) (by simp[eS,hP]) (by simp[eS,hP,zV]),?_⟩;simp[eS,hP,zV,hks,h15];refine zCq ha [0] (by decide) (by simp[eS,hP]) (by simp[zV]) ?_;simp[eS,hP,zC];refine zCq (hb.ret hf) [0] (by decide) (by simp[eS,hP]) (by simp[zV,zC,hks,h15]) ?_;simp[eS,hP,zC];exact zL [0] 0 (by decide) (by simp) (by simp) (by simp[zC,qX,qF,zS])
  ·intro hf;refine zAu Tryz.func150 rfl zFQ (rs:=[.cell 6 3 true]) (by kernel_rfl) ?_;unfold zFF wpF;simp[eS,hP,zV,hk0,hk1,hk2,hk3,hk4,hk7,hk9,hk11];refine⟨_,_,zT (l:=[(0,.ptr 0 0),(2,scE V),(4,.rptr [int e.id.a,int e.id.b,int e.id.c,int e.k,int e.n,int e.ref.a,int e.ref.b,int e.ref.c,int e.typ.k,int e.typ.id.a,int e.typ.id.b,int e.typ.id.c,.sl e.typ.kids.length (yA e.typ.kids),.sl e.kids.length (jR e.kids),.sl e.names.length (zAJ e.names)]),(6,.ptr 1 0)]) (σ':=eS p F s++[.box [int 0,int 0,.nil]]) [0,2] 1 (by decide) (by simp) (by simp[eS,hP]) (by simp[eS,hP,zV]),?_⟩;simp[eS,hP,zV,hks,h15];refine zCq ha [0] (by decide) (by simp[eS,hP]) (by simp[zV]) ?_;simp[eS,hP,zC];refine zDx (hb.pan hf) [0] (by decide) (by simp[eS,hP]) (by simp[zV,zC,hks,h15]) fun τ=>?_
   simp
 ·unfold VaE;rw[hx h1];refine⟨fun hf=>(h1 hf).elim,fun hf=>?_⟩;refine zAu Tryz.func150 rfl zFQ (rs:=[.cell 6 3 true]) (by kernel_rfl) ?_;unfold zFF wpF;simp[eS,hP,zV,hk0,hk1,hk2,hk3,hk4,hk7,hk9,hk11];refine⟨_,_,zT (l:=[(0,.ptr 0 0),(2,scE V),(4,.rptr [int e.id.a,int e.id.b,int e.id.c,int e.k,int e.n,int e.ref.a,int e.ref.b,int e.ref.c,int e.typ.k,int e.typ.id.a,int e.typ.id.b,int e.typ.id.c,.sl e.typ.kids.length (yA e.typ.kids),.sl e.kids.length (jR e.kids),.sl e.names.length (zAJ e.names)]),(6,.ptr 1 0)]) (σ':=eS p F s++[.box [int 0,int 0,.nil]]) [0,2] 1 (by decide) (by simp) (by simp[eS,hP]) (by simp[eS,hP,zV]),?_⟩;simp[eS,hP,zV,hks,h15];refine zDx (ha.pan hf) [0] (by decide) (by simp[eS,hP]) (by simp[zV]) fun τ=>?_
  simp
theorem zZi {vs:List Val}{s1:XS}(hk:e.k=7)(hl:vs.length=e.kids.length)(ha:AlE p F e V s (vs,s1)):VaE p F e V s (.mk 2 0 vs,s1):=by
 have hP:=eP p;constructor
 ·intro hf;refine qP Tryz.func150 rfl zFQ (rs:=[.cell 6 3 true]) (by kernel_rfl) ?_;unfold zFF;simp[eS,hP,zV,hk];refine jO (ha.ret hf) [0] (by decide) (by simp[eS,hP]) (by simp) ?_;simp[eS,hP,zC];exact zL [0] 0 (by decide) (by simp) (by simp) (by simp[zC,qX,qF,zS,hl])
 ·intro hf;refine zAu Tryz.func150 rfl zFQ (rs:=[.cell 6 3 true]) (by kernel_rfl) ?_;unfold zFF wpF;simp[eS,hP,zV,hk];refine zHW (ha.pan hf) [0] (by decide) (by simp[eS,hP]) (by simp) fun τ=>?_
  simp
theorem zWQ {vs:List Val}{s1:XS}(hk:e.k=11)(hl:vs.length=e.kids.length)(ha:AlE p F e V s (vs,s1)):VaE p F e V s (.mk 4 0 vs,s1):=by
 have hP:=eP p;constructor
 ·intro hf;refine qP Tryz.func150 rfl zFQ (rs:=[.cell 6 3 true]) (by kernel_rfl) ?_;unfold zFF;simp[eS,hP,zV,hk];refine jO (ha.ret hf) [0] (by decide) (by simp[eS,hP]) (by simp) ?_;simp[eS,hP,zC];exact zL [0] 0 (by decide) (by simp) (by simp) (by simp[zC,qX,qF,zS,hl])
 ·intro hf;refine zAu Tryz.func150 rfl zFQ (rs:=[.cell 6 3 true]) (by kernel_rfl) ?_;unfold zFF wpF;simp[eS,hP,zV,hk];refine zHW (ha.pan hf) [0] (by decide) (by simp[eS,hP]) (by simp) fun τ=>?_
  simp
theorem zWP {vs:List Val}{s1:XS}(hk:e.k=9)(hl:vs.length=e.kids.length)(ha:AlE p F e V s (vs,s1)):VaE p F e V s (.mk 3 e.n vs,s1):=by
 have hP:=eP p;constructor
 ·intro hf;refine qP Tryz.func150 rfl zFQ (rs:=[.cell 6 3 true]) (by kernel_rfl) ?_;unfold zFF;simp[eS,hP,zV,hk];refine⟨_,_,zT (l:=[(0,.ptr 0 0),(2,scE V),(4,.rptr [int e.id.a,int e.id.b,int e.id.c,int e.k,int e.n,int e.ref.a,int e.ref.b,int e.ref.c,int e.typ.k,int e.typ.id.a,int e.typ.id.b,int e.typ.id.c,.sl e.typ.kids.length (yA e.typ.kids),.sl e.kids.length (jR e.kids),.sl e.names.length (zAJ e.names)]),(6,.ptr 1 0)]) (σ':=eS p F s++[.box [int 0,int 0,.nil]]) [0,2] 1 (by decide) (by simp) (by simp[eS,hP]) (by simp[eS,hP,zV,hk]),?_⟩;simp[eS,hP,zV,hk];refine zCq (ha.ret hf) [0] (by decide) (by simp[eS,hP]) (by simp) ?_;simp[eS,hP,zC];exact zL [0] 0 (by decide) (by simp) (by simp) (by simp[zC,qX,qF,zS,hl])
 ·intro hf;refine zAu Tryz.func150 rfl zFQ (rs:=[.cell 6 3 true]) (by kernel_rfl) ?_;unfold zFF wpF;simp[eS,hP,zV,hk];refine⟨_,_,zT (l:=[(0,.ptr 0 0),(2,scE V),(4,.rptr [int e.id.a,int e.id.b,int e.id.c,int e.k,int e.n,int e.ref.a,int e.ref.b,int e.ref.c,int e.typ.k,int e.typ.id.a,int e.typ.id.b,int e.typ.id.c,.sl e.typ.kids.length (yA e.typ.kids),.sl e.kids.length (jR e.kids),.sl e.names.length (zAJ e.names)]),(6,.ptr 1 0)]) (σ':=eS p F s++[.box [int 0,int 0,.nil]]) [0,2] 1 (by decide) (by simp) (by simp[eS,hP]) (by simp[eS,hP,zV,hk]),?_⟩;simp[eS,hP,zV,hk];refine zDx (ha.pan hf) [0] (by decide) (by simp[eS,hP]) (by simp) fun τ=>?_
  simp
theorem qDr {ts:List Typ}{t:Typ}{vs:List Val}{s1:XS}(hk:e.k=4)(ho:s1.fail=0→OpT e.n ts t∧TyL p ts vs∧∀v∈vs,zX v≤256)(hl:vs.length=e.kids.length)(ha:AlE p F e V s (vs,s1)):VaE p F e V s (opV e.n vs,s1):=by
 have hP:=eP p;constructor
 ·intro hf;obtain⟨ho,hv,hs⟩:=ho hf;have hop:=qDm ho hv hs;generalize opV e.n vs=r at *
  refine qP Tryz.func150 rfl zFQ (rs:=[.cell 6 3 true]) (by kernel_rfl) ?_;unfold zFF;simp[eS,hP,zV,hk];refine⟨_,_,zT (l:=[(0,.ptr 0 0),(2,scE V),(4,.rptr [int e.id.a,int e.id.b,int e.id.c,int e.k,int e.n,int e.ref.a,int e.ref.b,int e.ref.c,int e.typ.k,int e.typ.id.a,int e.typ.id.b,int e.typ.id.c,.sl e.typ.kids.length (yA e.typ.kids),.sl e.kids.length (jR e.kids),.sl e.names.length (zAJ e.names)]),(6,.ptr 1 0)]) (σ':=eS p F s++[.box [int 0,int 0,.nil]]) [0,2] 1 (by decide) (by simp) (by simp[eS,hP]) (by simp[eS,hP,zV,hk]),?_⟩;simp[eS,hP,zV,hk];refine zCq (ha.ret hf) [0] (by decide) (by simp[eS,hP]) (by simp) ?_;simp[eS,hP];refine qU hop (by simp[hl]) (by simp[zC]) ?_;simp[eS,hP,zC];exact zL [0] 0 (by decide) (by simp) (by simp) (by simp[zC,qX,qF,zS])
 ·intro hf;refine zAu Tryz.func150 rfl zFQ (rs:=[.cell 6 3 true]) (by kernel_rfl) ?_;unfold zFF wpF;simp[eS,hP,zV,hk];refine⟨_,_,zT (l:=[(0,.ptr 0 0),(2,scE V),(4,.rptr [int e.id.a,int e.id.b,int e.id.c,int e.k,int e.n,int e.ref.a,int e.ref.b,int e.ref.c,int e.typ.k,int e.typ.id.a,int e.typ.id.b,int e.typ.id.c,.sl e.typ.kids.length (yA e.typ.kids),.sl e.kids.length (jR e.kids),.sl e.names.length (zAJ e.names)]),(6,.ptr 1 0)]) (σ':=eS p F s++[.box [int 0,int 0,.nil]]) [0,2] 1 (by decide) (by simp) (by simp[eS,hP]) (by simp[eS,hP,zV,hk]),?_⟩;simp[eS,hP,zV,hk];refine zDx (ha.pan hf) [0] (by decide) (by simp[eS,hP]) (by simp) fun τ=>?_
  simp
theorem zWO {d:Dfn}{vs:List Val}{s1:XS}{r:Val×XS}(hk:e.k=3)(hd:qY p.defs e.ref=some d)(hl:vs.length=e.kids.length)(ha:AlE p F e V s (vs,s1))
 (hb:s1.fail=0→RP 72 [.ptr 0 0,.agg (zG d),.sl vs.length (zN vs)] p F s1 (.agg (zC r.1)) r.2)(hx:s1.fail≠0→r.2=s1):VaE p F e V s r:=by
 have hP:=eP p;by_cases h1:s1.fail=0
 ·have hb:=hb h1;have ha:=ha.ret h1;rw[hl]at hb;constructor
  ·intro hf;refine qP Tryz.func150 rfl zFQ (rs:=[.cell 6 3 true]) (by kernel_rfl) ?_;unfold zFF;simp[eS,hP,zV,hk];refine yX (zDL p e.ref) (by simp[zK,zF]) (by simp[zAZ]) ?_;simp[zAZ,hd,zG];refine⟨_,_,zT (l:=[(0,.ptr 0 0),(2,scE V),(4,.rptr [int e.id.a,int e.id.b,int e.id.c,int e.k,int e.n,int e.ref.a,int e.ref.b,int e.ref.c,int e.typ.k,int e.typ.id.a,int e.typ.id.b,int e.typ.id.c,.sl e.typ.kids.length (yA e.typ.kids),.sl e.kids.length (jR e.kids),.sl e.names.length (zAJ e.names)]),(6,.ptr 1 0),(7,.rptr (zG d))]) (σ':=eS p F s++[.box [int 0,int 0,.nil]]) [0,2] 1 (by decide) (by simp) (by simp[eS,hP]) (by simp[eS,hP,zV,zG,hk]),?_⟩;simp[eS,hP,zV,zG,hk];refine zCq ha [0] (by decide) (by simp[eS,hP]) (by simp) ?_;simp[eS,hP];refine zCq (hb.ret hf) [0] (by decide) (by simp[eS,hP]) (by simp[zG]) ?_;simp[eS,hP,zC];exact zL [0] 0 (by decide) (by simp) (by simp) (by simp[zC,qX,qF,zS])
  ·intro hf;refine zAu Tryz.func150 rfl zFQ (rs:=[.cell 6 3 true]) (by kernel_rfl) ?_;unfold zFF wpF;simp[eS,hP,zV,hk];refine yX (zDL p e.ref) (by simp[zK,zF]) (by simp[zAZ]) ?_;simp[zAZ,hd,zG];refine⟨_,_,zT (l:=[(0,.ptr 0 0),(2,scE V),(4,.rptr [int e.id.a,int e.id.b,int e.id.c,int e.k,int e.n,int e.ref.a,int e.ref.b,int e.ref.c,int e.typ.k,int e.typ.id.a,int e.typ.id.b,int e.typ.id.c,.sl e.typ.kids.length (yA e.typ.kids),.sl e.kids.length (jR e.kids),.sl e.names.length (zAJ e.names)]),(6,.ptr 1 0),(7,.rptr (zG d))]) (σ':=eS p F s++[.box [int 0,int 0,.nil]]) [0,2] 1 (by decide) (by simp) (by simp[eS,hP]) (by simp[eS,hP,zV,zG,hk]),?_⟩;simp[eS,hP,zV,zG,hk];refine zCq ha [0] (by decide) (by simp[eS,hP]) (by simp) ?_;simp[eS,hP];refine zDx (hb.pan hf) [0] (by decide) (by simp[eS,hP]) (by simp[zG]) fun τ=>?_
   simp
 ·unfold VaE;rw[hx h1];refine⟨fun hf=>(h1 hf).elim,fun hf=>?_⟩;refine zAu Tryz.func150 rfl zFQ (rs:=[.cell 6 3 true]) (by kernel_rfl) ?_;unfold zFF wpF;simp[eS,hP,zV,hk];refine yX (zDL p e.ref) (by simp[zK,zF]) (by simp[zAZ]) ?_;simp[zAZ,hd,zG];refine⟨_,_,zT (l:=[(0,.ptr 0 0),(2,scE V),(4,.rptr [int e.id.a,int e.id.b,int e.id.c,int e.k,int e.n,int e.ref.a,int e.ref.b,int e.ref.c,int e.typ.k,int e.typ.id.a,int e.typ.id.b,int e.typ.id.c,.sl e.typ.kids.length (yA e.typ.kids),.sl e.kids.length (jR e.kids),.sl e.names.length (zAJ e.names)]),(6,.ptr 1 0),(7,.rptr (zG d))]) (σ':=eS p F s++[.box [int 0,int 0,.nil]]) [0,2] 1 (by decide) (by simp) (by simp[eS,hP]) (by simp[eS,hP,zV,zG,hk]),?_⟩;simp[eS,hP,zV,zG,hk];refine zDx (ha.pan hf) [0] (by decide) (by simp[eS,hP]) (by simp) fun τ=>?_
  simp
end
section
variable {p:Prg}{F:Int}{c:Nat}{m:Int}{ev:Evl}{e:Exp}{V:List EVar}{s:XS}
@[simp] theorem qPT:zB prog 186=true:=by kernel_rfl
section
variable {A:List Val×XS}(hA:Ret prog 199 [.ptr 0 0,.sl e.kids.length (jR e.kids),.sl V.length (zDw V)] (uS p F s) (.sl A.1.length (zN A.1)) (uS p F A.2))
include hA
end
end
section
variable {p:Prg}{c:Nat}{m:Int}{ev:Evl}{e:Exp}{V:List EVar}{s:XS}
end
def zTU (d:Dfn)(L:List Id):List Id:=if d.id∈L then namS d.slots L else L
theorem RS.namS {p:Prg}{hs:List Hd}(hf:Fit p hs){ss:List Slt}(h:∀s∈ss,TyOk hs 4 s.typ){L:List Id}(hL:RS p L):RS p (namS ss L) :=
 RS.fold (fun(s:Slt) L=>zQx s.typ L) ss L (fun s hs' L hL=>hL.nam hf (h s hs')) hL
theorem RS.turn {p:Prg}{hs:List Hd}(hf:Fit p hs){d:Dfn}(hd:d∈p.defs){L:List Id}(hL:RS p L):RS p (zTU d L):=by
 unfold zTU;split
 ·exact hL.namS hf (hf.slots d hd).2.2.2.2
 ·exact hL
theorem RS.rnd {p:Prg}{hs:List Hd}(hf:Fit p hs){ds:List Dfn}(hd:∀d∈ds,d∈p.defs){L:List Id}(hL:RS p L):RS p (ds.foldl (fun L d=>zTU d L) L) :=
 RS.fold zTU ds L (fun d hd' L hL=>hL.turn hf (hd d hd')) hL
theorem zSj {x:Int}(h:0≤x) : -1099511627776≤zQs x∧zQs x≤1099511627776:=by
 have e1:x.tdiv 16=x / 16:=tdN h;have e2:(x / 16).tmod 3=(x / 16) % 3:=tmN (by omega);have e3:(x / 16).tmod 9=(x / 16) % 9:=tmN (by omega);have w:∀y:Int,-1099511627790≤y→y≤1099511627790→w64 y=y:=fun y h1 h2=>IntWalk.i64_in _ (by omega)
 unfold zQs;rw[e1,e2,e3];split
 ·rw[w _ (by omega) (by omega)]; omega
 ·split
  ·rw[w _ (by omega) (by omega)]; omega
  ·rw[w _ (by omega) (by omega)]; omega
theorem zQL {g:Typ→Int→Val×Int}{Q:Val→Prop}:∀(l:List Typ) (a:Int),(∀t∈l,∀b,Q (g t b).1)→∀v∈(zAR g l a).1,Q v
 | [],a,_=>by simp[zAR]
 | t::l,a,h=>fun v hv=>by
  simp only[zAR,jA6]at hv;rcases hv with rfl | hv
  ·exact h t (by simp) a
  ·exact zQL l _ (fun x hx b=>h x (by simp[hx]) b) v hv
theorem zNc {P:Prg}{g:Typ→Int→Val×Int}:∀(l:List Typ) (a:Int),(∀t∈l,∀b,zAj P t (g t b).1=true)→zAP P l (zAR g l a).1=true
 | [],a,_=>by simp[zAR,zAP]
 | t::l,a,h=>by simp only[zAR,zAP,jA4];exact⟨h t (by simp) a,zNc l _ fun x hx b=>h x (by simp[hx]) b⟩
theorem zNb {P:Prg}{g:Typ→Val}:∀(l:List Slt),(∀s∈l,zAj P s.typ (g s.typ)=true)→zAP P (l.map Slt.typ) (l.map fun s=>g s.typ)=true
 | [],_=>by simp[zAP]
 | s::l,h=>by simp only[jAd,zAP,jA4];exact⟨h s (by simp),zNb l fun x hx=>h x (by simp[hx])⟩
theorem zUY {P:Prg}{hs:List Hd}(hf:Fit P hs){l:List Int}(hl:∀x∈l,w64 x=x){r:Nat}{t:Typ}(h:TyOk hs r t):r<24→∀f,r<f→∀a d,zAj P t (zAg P l f t a d).1=true:=by
 induction h with
 | int r =>
  intro hr f hf' a d;obtain⟨m,rfl⟩:∃m,f=m+1:=⟨f-1,by omega⟩;have hv:=(TyOk.int r).validT hf.hd hr;have ha:=zAz (i:=a) hl (most:=1048576) (by omega);have hm:=zSj ha.1;rw[zAl,hv];simp[zAg,Val.k,Val.n,Val.kids,hm.1,hm.2]
 | bool r =>
  intro hr f hf' a d;obtain⟨m,rfl⟩:∃m,f=m+1:=⟨f-1,by omega⟩;have hv:=(TyOk.bool r).validT hf.hd hr;have ha:=zAz (i:=a) hl (most:=1048576) (by omega);have e:(atV l a 1048576).tmod 2=(atV l a 1048576) % 2:=tmN ha.1;rw[zAl,hv];simp[zAg,Val.k,Val.n,Val.kids,e];omega
 | list r t h ih =>
  intro hr f hf' a d;obtain⟨m,rfl⟩:∃m,f=m+1:=⟨f-1,by omega⟩;have hv:=(TyOk.list r t h).validT hf.hd hr;rw[zAl,hv];simp only[zAg,Typ.k_mk,Typ.kids_mk,jD8];simp only[Val.k,Val.n,Val.kids];simp;intro v hv;refine zQL (Q:=fun v=>zAj P t v=true) _ _ (fun y hy b=>?_) v hv;rw[(jD.1 hy).2];exact ih (by omega) m (by omega) b _
 | dfn r k h h1 h2 h3 h4 ih =>
  intro hr f hf' a d;obtain⟨m,rfl⟩:∃m,f=m+1:=⟨f-1,by omega⟩;have hv:=(TyOk.dfn r k h h1 h2 h3 h4).validT hf.hd hr;obtain⟨hd,hdm⟩:=hf.at_ k h;have e1:(dfn P hs[k].id).kind=hs[k].kind:=congrArg Hd.kind hd;have e2:(dfn P hs[k].id).slots=hs[k].slots:=congrArg Hd.slots hd;have hs':=hf.slots _ hdm;have ha:=zAz (i:=a) hl (most:=1048576) (by omega);have k0:¬(jS hs[k].id).k=0:=by show ¬(3:Int)=0; decide
  have k1:¬(jS hs[k].id).k=1:=by show ¬(3:Int)=1; decide
  have k2:¬(jS hs[k].id).k=2:=by show ¬(3:Int)=2; decide
  have ki:(jS hs[k].id).id=hs[k].id:=rfl;rw[zAl,hv,if_neg k0,if_neg k1,if_neg k2,zAg,if_neg k0,if_neg k1,if_neg k2,ki];by_cases hk:(dfn P hs[k].id).kind=1
  ·rw[if_pos hk,if_pos hk];have hn1:1≤(dfn P hs[k].id).slots.length:=hs'.1;have et:(atV l a 1048576).tmod (dfn P hs[k].id).slots.length=(atV l a 1048576) % (dfn P hs[k].id).slots.length:=tmN ha.1;have q0:0≤(atV l a 1048576).tmod (dfn P hs[k].id).slots.length:=by rw[et]; exact Int.emod_nonneg _ (by omega)
   have q1:(atV l a 1048576).tmod (dfn P hs[k].id).slots.length<(dfn P hs[k].id).slots.length:=by rw[et]; exact Int.emod_lt_of_pos _ (by omega)
   generalize (atV l a 1048576).tmod (dfn P hs[k].id).slots.length=q at q0 q1;have hqn:q.toNat<(dfn P hs[k].id).slots.length:=by omega
   have hg:((dfn P hs[k].id).slots.map Slt.typ)[q.toNat]?=some ((dfn P hs[k].id).slots[q.toNat]).typ:=by simp[hqn]
   have hgd:((dfn P hs[k].id).slots.map Slt.typ).getD q.toNat Typ.zero=((dfn P hs[k].id).slots[q.toNat]).typ:=by rw[jBk,hg]; rfl
   rw[hgd];have hmem:(dfn P hs[k].id).slots[q.toNat]∈hs[k].slots:=by rw[←e2]; exact jA3 hqn
   have:=ih _ hmem (by omega) m (by omega) (w64 (a+1)) (w64 (d+1));simp only[Val.k,Val.n,Val.kids,hg,zNd,this];simp[q0,q1]
  ·rw[if_neg hk,if_neg hk];have:=zNc (P:=P) (g:=fun t b=>zAg P l m t b (w64 (d+1))) ((dfn P hs[k].id).slots.map Slt.typ) (w64 (a+1)) fun y hy b=>by obtain⟨s,hs1,rfl⟩:=jAm.1 hy;rw[e2]at hs1;exact ih s hs1 (by omega) m (by omega) b _
   simp only[Val.k,Val.n,Val.kids,this];simp[zI7]
theorem zV6 {P:Prg}{hs:List Hd}(hf:Fit P hs){r:Nat}{t:Typ}(h:TyOk hs r t):r<24→∀f,r<f→zAj P t (zAB P f t)=true:=by
 induction h with
 | int r =>
  intro hr f hf';obtain⟨m,rfl⟩:∃m,f=m+1:=⟨f-1,by omega⟩;rw[zAl,(TyOk.int r).validT hf.hd hr];simp[zAB,Val.k,Val.n,Val.kids]
 | bool r =>
  intro hr f hf';obtain⟨m,rfl⟩:∃m,f=m+1:=⟨f-1,by omega⟩;rw[zAl,(TyOk.bool r).validT hf.hd hr];simp[zAB,Val.k,Val.n,Val.kids]
 | list r t h ih =>
  intro hr f hf';obtain⟨m,rfl⟩:∃m,f=m+1:=⟨f-1,by omega⟩;rw[zAl,(TyOk.list r t h).validT hf.hd hr];simp[zAB,Val.k,Val.n,Val.kids]
 | dfn r k h h1 h2 h3 h4 ih =>
  intro hr f hf';obtain⟨m,rfl⟩:∃m,f=m+1:=⟨f-1,by omega⟩;have hv:=(TyOk.dfn r k h h1 h2 h3 h4).validT hf.hd hr;obtain⟨hd,hdm⟩:=hf.at_ k h;have e2:(dfn P hs[k].id).slots=hs[k].slots:=congrArg Hd.slots hd;have hs':=hf.slots _ hdm;have k0:¬(jS hs[k].id).k=0:=by show ¬(3:Int)=0; decide
  have k1:¬(jS hs[k].id).k=1:=by show ¬(3:Int)=1; decide
  have k2:¬(jS hs[k].id).k=2:=by show ¬(3:Int)=2; decide
  have ki:(jS hs[k].id).id=hs[k].id:=rfl;rw[zAl,hv,if_neg k0,if_neg k1,if_neg k2,zAB,if_neg k0,if_neg k1,if_neg k2,ki];by_cases hk:(dfn P hs[k].id).kind=1
  ·rw[if_pos hk,if_pos hk];have hn1:1≤(dfn P hs[k].id).slots.length:=hs'.1;cases hss:(dfn P hs[k].id).slots with
   | nil=>rw[hss]at hn1; simp at hn1
   | cons s ss =>
    have:=ih s (by rw[←e2,hss]; simp) (by omega) m (by omega);simp[Val.k,Val.n,Val.kids,zNd,this]
  ·rw[if_neg hk,if_neg hk];have:=zNb (P:=P) (g:=fun t=>zAB P m t) (dfn P hs[k].id).slots fun s hs1=>ih s (by rw[←e2]; exact hs1) (by omega) m (by omega)
   simp only[Val.k,Val.n,Val.kids,this];simp
structure RelX (k:Int)(s s':XS):Prop where
 fuel:s'.fuel=s.fuel-k
 fail:s'.fail=s.fail
 ds:s'.ds=s.ds
 ns:s'.ns=s.ns
def zDi (s' s:XS):Prop:=(∀x∈s'.ds,x∈s.ds)∧∀x∈s'.ns,x∈s.ns
theorem zDi.rfl' (s:XS):zDi s s:=⟨fun _ h=>h,fun _ h=>h⟩
theorem zDi.trans {a b c:XS}(h:zDi a b)(k:zDi b c):zDi a c:=⟨fun x hx=>k.1 x (h.1 x hx),fun x hx=>k.2 x (h.2 x hx)⟩
theorem RelX.sub {k:Int}{s s':XS}(h:RelX k s s'):zDi s' s:=⟨fun x hx=>by rw[←h.ds]; exact hx,fun x hx=>by rw[←h.ns]; exact hx⟩
theorem zQZ (s:XS):InvX (zDi s) :=
 ⟨fun e t h _=>⟨h.1,fun x hx=>jBi _ (h.2 x hx)⟩,fun d t h=>⟨fun x hx=>jBi _ (h.1 x hx),h.2⟩,fun x t h=>h⟩
def Grow (ev:Evl):Prop:=∀e V s,zDi s (ev e V s).2
theorem zGq (p:Prg)(fl n:Nat):Grow (jU p fl n):=fun e V s=>zDG (zQZ s) fl n e V s (zDi.rfl' s)
def zKs {α : Type}(k:Int)(r r' : α×XS):Prop:=(RelX k r.2 r'.2∧r'.1=r.1)∨(r'.2.fail≠0∧zDi r'.2 r.2)
def zTY (k:Int)(ev ev':Evl):Prop:=∀e V s s',RelX k s s'→zKs k (ev e V s) (ev' e V s')
theorem zKs.grow {α : Type}{k:Int}{r r' : α×XS}{t : α}{s:XS}(h:r'.2.fail≠0∧zDi r'.2 r.2)(hs:zDi r.2 s):zKs k (t,s) r':=.inr ⟨h.1,h.2.trans hs⟩
section
variable {p:Prg}{k:Int}{ev ev':Evl}
theorem Grow.all (hg:Grow ev)(V:List EVar)(l:List Exp)(s:XS):zDi s (qZ ev V l s).2:=zFM (I:=zDi s) (fun e V t ht=>ht.trans (hg e V t)) V l s (zDi.rfl' s)
theorem Grow.fold (hg:Grow ev)(V:List EVar)(i:Id)(b:Exp)(l:List Val)(r:Val×XS):zDi r.2 (yH ev V i b l r).2:=zGD (I:=zDi r.2) (fun e V t ht=>ht.trans (hg e V t)) V i b l r (zDi.rfl' r.2)
theorem Grow.body (hg:Grow ev)(d:Dfn)(vs:List Val)(s:XS):zDi s (zAH ev d vs s).2:=zG5 (I:=zDi s) (zQZ s) (fun e V t ht=>ht.trans (hg e V t)) d vs s (zDi.rfl' s)
theorem zPj (h:zTY k ev ev')(hs:zDh ev')(hg:Grow ev)(V:List EVar):∀(l:List Exp) (s s':XS),RelX k s s'→zKs k (qZ ev V l s) (qZ ev' V l s')
 | [],s,s',hr=>.inl ⟨hr,rfl⟩
 | e::l,s,s',hr=>by
  simp only[qZ];rcases h e V s s' hr with ⟨h1,h2⟩ | ⟨h1,h2⟩
  ·rcases zPj h hs hg V l _ _ h1 with ⟨h3,h4⟩ | h3
   ·exact .inl ⟨h3,by rw[h2,h4]⟩
   ·exact .inr h3
  ·have hst:=zD5 hs V l _ h1;refine .inr ⟨by simp only; rw[hst]; exact h1,?_⟩;simp only;rw[hst];exact h2.trans (hg.all V l _)
theorem zNf (h:zTY k ev ev')(hs:zDh ev')(hg:Grow ev)(V:List EVar)(i:Id)(b:Exp):∀(l:List Val) (r r':Val×XS),zKs k r r'→zKs k (yH ev V i b l r) (yH ev' V i b l r')
 | [],r,r',hr=>hr
 | x::l,r,r',hr=>by
  rcases hr with ⟨h1,h2⟩ | ⟨h1,h2⟩
  ·simp only[yH];rw[h2];exact zNf h hs hg V i b l _ _ (h _ _ _ _ h1)
  ·have hst:=zCP hs V i b (x::l) r' h1;refine .inr ⟨by rw[hst]; exact h1,?_⟩;rw[hst];exact h2.trans (hg.fold V i b (x::l) r)
theorem zMJ (h:zTY k ev ev')(d:Dfn)(vs:List Val){s s':XS}(hr:RelX k s s'):zKs k (zAH ev d vs s) (zAH ev' d vs s'):=by
 unfold zAH;rw[hr.fail];split
 ·exact .inl ⟨hr,rfl⟩
 ·exact h _ _ _ _ ⟨hr.fuel,rfl,by simp only; rw[hr.ds],hr.ns⟩
theorem zPt (h:zTY k ev ev')(hs:zDh ev')(hg:Grow ev)(e:Exp)(V:List EVar){s s':XS}(hr:RelX k s s'):zKs k (yE ev e V s) (yE ev' e V s'):=by
 rcases h (e.kids.headD .zero) V s s' hr with ⟨h1,h2⟩ | ⟨h1,h2⟩
 ·unfold yE;rw[h2,h1.fail];generalize (ev (e.kids.headD .zero) V s).1=v at *
  by_cases c0:(ev (e.kids.headD .zero) V s).2.fail≠0
  ·rw[if_pos c0,if_pos c0]; exact .inl ⟨h1,rfl⟩
  rw[if_neg c0,if_neg c0];by_cases c1:e.k=5
  ·rw[if_pos c1,if_pos c1]; exact h _ _ _ _ h1
  rw[if_neg c1,if_neg c1];by_cases c2:e.k=6
  ·rw[if_pos c2,if_pos c2]; exact h _ _ _ _ h1
  rw[if_neg c2,if_neg c2];by_cases c3:e.k=8
  ·rw[if_pos c3,if_pos c3]; exact .inl ⟨h1,rfl⟩
  rw[if_neg c3,if_neg c3];by_cases c4:e.k=10
  ·rw[if_pos c4,if_pos c4]; exact h _ _ _ _ h1
  rw[if_neg c4,if_neg c4];exact zNf h hs hg _ _ _ _ _ _ (h _ _ _ _ h1)
 ·have hx:(yE ev' e V s').2=(ev' (e.kids.headD .zero) V s').2:=by unfold yE; rw[if_pos h1]
  have hgr:zDi (ev (e.kids.headD .zero) V s).2 (yE ev e V s).2:=by
   unfold yE;generalize ev (e.kids.headD .zero) V s=r at *
   repeat' split
   all_goals first
    | exact zDi.rfl' _
    | exact hg _ _ _
    | exact(hg _ _ _).trans (hg.fold _ _ _ _ _)
  exact .inr ⟨by rw[hx]; exact h1,by rw[hx]; exact h2.trans hgr⟩
theorem zYx {c:Bool}{s s':XS}{v v':Val}(hf:s'.fail=s.fail)(hv:v'=v):zf c s' v'=zf c s v:=by unfold zf; rw[hf,hv]
theorem zSJ (h:zTY k ev ev')(hs:zDh ev')(hg:Grow ev)(fl:Nat)(e:Exp)(V:List EVar){s s':XS}(hr:RelX k s s'):zKs k (qV p fl ev e V s) (qV p fl ev' e V s'):=by
 have ha:=zPj h hs hg V e.kids s s' hr;unfold qV;by_cases c0:e.k=0
 ·rw[if_pos c0,if_pos c0]; exact .inl ⟨hr,rfl⟩
 rw[if_neg c0,if_neg c0];by_cases c1:e.k=1
 ·rw[if_pos c1,if_pos c1]; exact .inl ⟨hr,rfl⟩
 rw[if_neg c1,if_neg c1];by_cases c2:e.k=2
 ·rw[if_pos c2,if_pos c2]; exact .inl ⟨hr,rfl⟩
 rw[if_neg c2,if_neg c2];by_cases c3:e.k=5∨e.k=6∨e.k=8∨e.k=10∨e.k=12
 ·rw[if_pos c3,if_pos c3]; exact zPt h hs hg e V hr
 rw[if_neg c3,if_neg c3];by_cases c4:e.k=3
 ·rw[if_pos c4,if_pos c4];rcases ha with ⟨h1,h2⟩ | ⟨h1,h2⟩
  ·rw[h2]; exact zMJ h _ _ h1
  ·have hx:(zAH ev' (dfn p e.ref) (qZ ev' V e.kids s').1 (qZ ev' V e.kids s').2).2=(qZ ev' V e.kids s').2:=by unfold zAH; rw[if_pos h1]
   exact .inr ⟨by rw[hx]; exact h1,by rw[hx]; exact h2.trans (hg.body _ _ _)⟩
 rw[if_neg c4,if_neg c4];have rest:∀(c:Bool) (g:List Val→Val),zKs k (zf c (qZ ev V e.kids s).2 (g (qZ ev V e.kids s).1),(qZ ev V e.kids s).2) (zf c (qZ ev' V e.kids s').2 (g (qZ ev' V e.kids s').1),(qZ ev' V e.kids s').2):=fun c g=>by
  rcases ha with ⟨h1,h2⟩ | h1
  ·exact .inl ⟨h1,zYx h1.fail (by rw[h2])⟩
  ·exact .inr h1
 by_cases c5:e.k=4
 ·rw[if_pos c5,if_pos c5]; exact rest _ _
 rw[if_neg c5,if_neg c5];by_cases c6:e.k=7
 ·rw[if_pos c6,if_pos c6]; exact rest _ fun l=>.mk 2 0 l
 rw[if_neg c6,if_neg c6];by_cases c7:e.k=9
 ·rw[if_pos c7,if_pos c7]; exact rest _ fun l=>.mk 3 e.n l
 rw[if_neg c7,if_neg c7];exact rest _ fun l=>.mk 4 0 l
theorem zWE (fl:Nat){r r':Val×XS}(h:zKs k r r'):zKs k (zMx fl r) (zMx fl r'):=by
 have hd:∀q:Val×XS,(zBG q).ds=q.2.ds∧(zBG q).ns=q.2.ns:=fun q=>by unfold zBG; split<;>exact⟨rfl,rfl⟩
 rcases h with ⟨h1,h2⟩ | ⟨h1,h2⟩
 ·have hl:RelX k (zBG r) (zBG r'):=by
   unfold zBG;rw[h1.fail,h2];split
   ·exact⟨h1.fuel,rfl,h1.ds,h1.ns⟩
   ·exact h1
  exact .inl ⟨hl,zYx hl.fail h2⟩
 ·have hl:zBG r'=r'.2:=by unfold zBG; rw[if_neg fun h=>h1 h.1]
  refine .inr ⟨by show (zBG r').fail≠0; rw[hl]; exact h1,?_⟩;show zDi (zBG r') (zBG r);rw[hl];exact⟨fun x hx=>by rw[(hd r).1]; exact h2.1 x hx,fun x hx=>by rw[(hd r).2]; exact h2.2 x hx⟩
theorem zN6 (hk:0≤k)(fl j:Nat):∀n:Nat,zTY k (jU p fl (n+j)) (jU p fl n)
 | 0,e,V,s,s',hr=>by
  have hgr:=zGq p fl (0+j) e V s;by_cases hf:s.fail≠0
  ·have hf':s'.fail≠0:=by rw[hr.fail]; exact hf
   rw[zAL p fl (0+j) e V s hf,zAL p fl 0 e V s' hf'];exact .inl ⟨hr,rfl⟩
  ·have hf':¬s'.fail≠0:=by rw[hr.fail]; exact hf
   have hx:jU p fl 0 e V s'=(vz,{s' with fail:=zCh}):=by rw[jU,if_neg hf']
   rw[hx];exact .inr ⟨show zCh≠0 by decide,hr.sub.trans hgr⟩
 | n+1,e,V,s,s',hr=>by
  have hgr:=zGq p fl (n+1+j) e V s;by_cases hf:s.fail≠0
  ·have hf':s'.fail≠0:=by rw[hr.fail]; exact hf
   rw[zAL p fl _ e V s hf,zAL p fl _ e V s' hf'];exact .inl ⟨hr,rfl⟩
  ·have hf':¬s'.fail≠0:=by rw[hr.fail]; exact hf
   by_cases hu:s'.fuel≤0
   ·have hx:jU p fl (n+1) e V s'=(vz,{s' with fail:=zCh}):=by rw[jU,if_neg hf',if_pos hu]
    rw[hx];exact .inr ⟨show zCh≠0 by decide,hr.sub.trans hgr⟩
   ·have hu0:¬s.fuel≤0:=by have:=hr.fuel; omega
    have hn:n+1+j=(n+j)+1:=by omega
    rw[hn,jU,jU,if_neg hf,if_neg hf',if_neg hu,if_neg hu0];exact zWE fl (zSJ (zN6 hk fl j n) (zAL p fl n) (zGq p fl (n+j)) fl e V
     ⟨by show s'.fuel-1=s.fuel-1-k; have:=hr.fuel; omega,hr.fail,hr.ds,by show s'.ns++[e.id]=s.ns++[e.id]; rw[hr.ns]⟩)
end
theorem zTd (C:Int):InvX (fun s=>s.ns.length+s.fuel=C) :=
 ⟨fun e s h hf=>by unfold zDf; simp only[jA7,jC0]; have:(s.ns.length:Int)+s.fuel=C:=h; omega,fun d s h=>h,fun x s h=>h⟩
theorem zXR (p:Prg)(d:Dfn)(vs:List Val)(fuel:Int):((zEI p d vs fuel).2.ns.length:Int)+(zEI p d vs fuel).2.fuel=fuel :=
 zG5 (zTd fuel) (zDG (zTd fuel) 1 _) d vs _ (by simp)
theorem zZW (p:Prg)(d:Dfn)(vs:List Val)(fuel:Int)(h:0≤fuel):0≤(zEI p d vs fuel).2.fuel :=
 (zG5 (zLs fuel) (zDG (zLs fuel) 1 _) d vs _ ⟨h,jAe _⟩:Fu fuel (zEI p d vs fuel).2).1
theorem RP.congr {f:FuncId}{args:List A}{p:Prg}{F:Int}{s s':XS}{r r':A}(h:RP f args p F s r s')(hr:s'.fail=0→r=r'):RP f args p F s r' s' :=
 ⟨fun hf=>by rw[←hr hf]; exact h.ret hf,h.pan⟩
section
variable {p:Prg}{F m:Int}{ev:Evl}{B:List Bnd}{e:Exp}{t:Typ}{V:List EVar}{s:XS}
def zVD:K:=G [kO 4 1,kZ 6 [ki,ki,kl]] (Z (Z (K.dops [(0,0,M 8 0),(1,0,kU 9 8),(2,0,D 10 9 3),(3,0,L 11 10 1),(4,0,M 12 0),(5,0,kU 13 12),(6,0,D 14 13 2),(7,0,L 15 14 1),(8,0,kB 16 11 15 .geq)]) (Y 16 (K.ops [⟨none,.mki (some 17) 51 (kc 18)⟩,⟨none,.pan none (kt 17)⟩]) ks)) (G [M 18 0,kU 19 18,D 20 19 3,L 21 20 1,kBi 22 21 1 .add,kU 23 18,D 24 23 3,S 24 22 1] (G [M 25 0,J 26 4 15,M 27 2,kC 28 150 [(kt 25),(kt 26),(kt 27)],kZ 7 [ki,ki,kl],S 7 28 3] (Z (G [J 29 7 3,kC 30 151 [(kt 29)],kBi 31 30 256 .gtr,M 32 31,T 32 false (J 33 7 3),T 32 false (kC 34 152 [(kt 33)]),T 32 false (kBi 35 34 24 .gtr),kPt 36 32 35] (Y 36 (K.ops [⟨none,.mki (some 37) 51 (kc 4)⟩,⟨none,.pan none (kt 37)⟩]) ks)) (G [J 38 7 3,S 6 38 3] kr)))))
theorem zYD:zQ prog Tryz.f110.ntmps (Tryz.f110.body.getD .skip)=some zVD.erase:=by kernel_rfl
@[simp] theorem qPe:zB prog 110=true:=by kernel_rfl
theorem zMS (hu:s.fuel≤0):zMs p F e V s (vz,{s with fail:=zCh}):=by
 have hP:=eP p;refine⟨fun hf=>absurd (show zCh=0 from hf) (by decide),fun _=>?_⟩;have hc:F≤F-s.fuel:=by omega
 refine zEG Tryz.func110 rfl zYD (rs:=[.cell 6 3 true]) (by kernel_rfl) ?_;unfold zVD wpF;simp[eS,hP,zV,hc]
theorem zWF {r:Val×XS}(hF:F≤1000000)(hs:s.fail=0)(hu:¬s.fuel≤0)(hB:Fu F s)(hv:VaE p F e V (zDf e s) r):zMs p F e V s (zMx 1 r):=by
 have hP:=eP p;obtain⟨b1,b2⟩:=hB;have hc:¬F≤F-s.fuel:=by omega
 have hw:IntKind.i64.wrap (F-s.fuel+1)=F-(s.fuel-1):=by rw[IntWalk.i64_in _ (by omega)]; omega
 have he:zMx 1 r=(r.1,zBG r):=by simp[zMx,zf]
 have ht:(zDf e s).fuel=s.fuel-1:=rfl;rw[he];by_cases h0:r.2.fail=0
 ·have hv:=hv.ret h0;by_cases hbig:zHU r.1
  ·have hl:zBG r={r.2 with fail:=zOj}:=by unfold zBG; rw[if_pos ⟨h0,hbig⟩]
   rw[hl];refine⟨fun hf=>absurd (show zOj=0 from hf) (by decide),fun _=>?_⟩;refine zEG Tryz.func110 rfl zYD (rs:=[.cell 6 3 true]) (by kernel_rfl) ?_;unfold zVD wpF;simp[eS,hP,zV,hc,hw];refine jO hv [0] (by decide) (by simp[eS,hP,ht]) (by simp[zV]) ?_;simp[eS,hP,zC];refine qA (zOO r.1) (by simp[zC]) (by simp) ?_;by_cases h1:256<zDT r.1
   ·simp[h1]
   ·have h2:24<zCs r.1:=hbig.resolve_left h1;simp[h1];refine qA (zJb r.1) (by simp[zC]) (by simp) ?_;simp[h2]
  ·have hl:zBG r=r.2:=by unfold zBG; rw[if_neg fun h=>hbig h.2]
   have h1:¬256<zDT r.1:=fun h=>hbig (.inl h)
   have h2:¬24<zCs r.1:=fun h=>hbig (.inr h)
   rw[hl];refine⟨fun _=>?_,fun hf=>(hf h0).elim⟩;refine zI Tryz.func110 rfl zYD (rs:=[.cell 6 3 true]) (by kernel_rfl) ?_;unfold zVD;simp[eS,hP,zV,hc,hw];refine jO hv [0] (by decide) (by simp[eS,hP,ht]) (by simp[zV]) ?_;simp[eS,hP,zC];refine qA (zOO r.1) (by simp[zC]) (by simp) ?_;simp[h1];refine qA (zJb r.1) (by simp[zC]) (by simp) ?_;simp[h2];exact zL [0] 0 (by decide) (by simp) (by simp) (by simp[zC])
 ·have hl:zBG r=r.2:=by unfold zBG; rw[if_neg fun h=>h0 h.1]
  rw[hl];refine⟨fun hf=>(h0 hf).elim,fun _=>?_⟩;refine zEG Tryz.func110 rfl zYD (rs:=[.cell 6 3 true]) (by kernel_rfl) ?_;unfold zVD wpF;simp[eS,hP,zV,hc,hw];refine zHW (hv.pan h0) [0] (by decide) (by simp[eS,hP,ht]) (by simp[zV]) fun τ=>?_
  simp
theorem zLb (h:IhE p F m ev){a:Exp}{ks:List Exp}{u:Typ}(hk:e.k=5∨e.k=6∨e.k=8∨e.k=10∨e.k=12)(hks:e.kids=a::ks)(ha:WE p B a u)(hV:EnvT p B V)(hN:NdV V)(hs:s.fail=0)(hB:Fu m s)
 (hb:∀v s1,s1.fail=0→Fu m s1→TyV p u v∧zX v≤256→BrE p F e V v s1 (zAN ev e V v s1)):VaE p F e V s (yE ev e V s):=by
 have hh:e.kids.headD .zero=a:=by rw[hks]; rfl
 refine qDq hk hks (h.ok a V s hs (.of ha hV hN) hB) (fun h1=>?_) fun h1=>?_
 ·rw[zUf (by rw[hh]; exact h1),hh];exact hb _ _ h1 (h.fu a V s hB) (h.snd a B V s u ha hV h1)
 ·unfold yE;rw[hh,if_pos h1]
theorem zUy (hp:zTX p)(hsl:qCt p)(h:IhE p F m ev)(he:WE p B e t)(hV:EnvT p B V)(hN:NdV V)(hs:s.fail=0)(hB:Fu m s):VaE p F e V s (qV p 1 ev e V s):=by
 cases he with
 | int _ i n r u ns h1 h2=>exact zZh hs rfl
 | bool _ i n r u ns h1=>exact zWN hs rfl h1
 | var _ i n r u ns _ hl=>exact zZj hs rfl
 | call _ i n r u ks ns hn d hd hk hl hw =>
  have e1:qV p 1 ev (.mk i 3 n r u ks ns) V s=zAH ev d (qZ ev V ks s).1 (qZ ev V ks s).2:=by simp[qV,dfn,hd]
  rw[e1];have hdm:=(zAk hd).1;have hal:=zId h V ks hn hs (fun k hk s=>by obtain⟨j,hj,rfl⟩:=jAz hk; exact .of (hw j hj) hV hN) hB;have hll:=zC1 ev V ks s;refine zWO (e:=.mk i 3 n r u ks ns) (vs:=(qZ ev V ks s).1) (s1:=(qZ ev V ks s).2) rfl hd hll hal (fun hf=>?_) fun hf=>?_
  ·obtain⟨ht,hz⟩:=zET h.stop h.snd hV ks _ s hl hw hf;have hlen:=ht.len;rw[jB5]at hlen;exact zP8 h d _ hlen (hsl d hdm).1 hf (fun _=>⟨_,_,hp r d hd (by simp[zHp,hk]),EnvT.args ht hz,zTk (hsl d hdm).2 _ hlen⟩) (zFM h.fu V ks s hB)
  ·unfold zAH;rw[if_pos hf]
 | op _ i n r u ks ns hn ts _ ho hl hw =>
  have e1:qV p 1 ev (.mk i 4 n r u ks ns) V s=(zf true (qZ ev V ks s).2 (opV n (qZ ev V ks s).1),(qZ ev V ks s).2):=by simp[qV]
  rw[e1];have hal:=zId h V ks hn hs (fun k hk s=>by obtain⟨j,hj,rfl⟩:=jAz hk; exact .of (hw j hj) hV hN) hB;refine RP.congr (qDr (e:=.mk i 4 n r u ks ns) (ts:=ts) (t:=t) (vs:=(qZ ev V ks s).1) rfl (fun hf=>?_) (zC1 ev V ks s) hal) fun hf=>by rw[zFE hf]; rfl
  obtain⟨ht,hz⟩:=zET h.stop h.snd hV ks _ s hl hw hf;exact⟨ho,ht,hz⟩
 | record _ i n r u ks ns hn d hd hk hl hw =>
  have e1:qV p 1 ev (.mk i 7 n r u ks ns) V s=(zf true (qZ ev V ks s).2 (.mk 2 0 (qZ ev V ks s).1),(qZ ev V ks s).2):=by simp[qV]
  rw[e1];have hal:=zId h V ks hn hs (fun k hk s=>by obtain⟨j,hj,rfl⟩:=jAz hk; exact .of (hw j hj) hV hN) hB;exact RP.congr (zZi (e:=.mk i 7 n r u ks ns) rfl (zC1 ev V ks s) hal) fun hf=>by rw[zFE hf]
 | case _ i r u a ns d j hd hk hj ha =>
  have e1:qV p 1 ev (.mk i 9 j r u [a] ns) V s=(zf true (qZ ev V [a] s).2 (.mk 3 j (qZ ev V [a] s).1),(qZ ev V [a] s).2):=by simp[qV]
  rw[e1];have hal:=zId h V [a] (by simp) hs (fun k hk s=>by rw[jAp.1 hk]; exact .of ha hV hN) hB;exact RP.congr (zWP (e:=.mk i 9 j r u [a] ns) rfl (zC1 ev V [a] s) hal) fun hf=>by rw[zFE hf]; rfl
 | list _ i n r u ks ns t hn hw =>
  have e1:qV p 1 ev (.mk i 11 n r u ks ns) V s=(zf true (qZ ev V ks s).2 (.mk 4 0 (qZ ev V ks s).1),(qZ ev V ks s).2):=by simp[qV]
  rw[e1];have hal:=zId h V ks hn hs (fun k hk s=>by obtain⟨j,hj,rfl⟩:=jAz hk; exact .of (hw j hj) hV hN) hB;exact RP.congr (zWQ (e:=.mk i 11 n r u ks ns) rfl (zC1 ev V ks s) hal) fun hf=>by rw[zFE hf]
 | ite _ i n r u a b c ns _ ha hb hc =>
  have e1:qV p 1 ev (.mk i 5 n r u [a,b,c] ns) V s=yE ev (.mk i 5 n r u [a,b,c] ns) V s:=by simp[qV]
  rw[e1];refine zLb h (.inl rfl) rfl ha hV hN hs hB fun v s1 h1 hB1 hty=>?_
  obtain⟨x,rfl,hx⟩:=hty.1.bool_inv;exact zYT hx rfl rfl (h.ok b V s1 h1 (.of hb hV hN) hB1) (h.ok c V s1 h1 (.of hc hV hN) hB1)
 | lets _ i n r u a b ns v _ hfr ha hb =>
  have e1:qV p 1 ev (.mk i 6 n r u [a,b] ns) V s=yE ev (.mk i 6 n r u [a,b] ns) V s:=by simp[qV]
  rw[e1];refine zLb h (.inr (.inl rfl)) rfl ha hV hN hs hB fun v s1 h1 hB1 hty=>?_
  exact zYU rfl rfl (h.ok b _ s1 h1 (.of hb (hV.push hty) (hN.push (.of (hV.ids hfr) 0))) hB1)
 | field _ i r u a ns d j hd hk hj ha =>
  have e1:qV p 1 ev (.mk i 8 j r u [a] ns) V s=yE ev (.mk i 8 j r u [a] ns) V s:=by simp[qV]
  rw[e1];refine zLb h (.inr (.inr (.inl rfl))) rfl ha hV hN hs hB fun v s1 h1 hB1 hty=>?_
  obtain⟨_,vs,hl,rfl,_⟩:=(hty.1.def_inv hd).resolve_right (fun h=>by omega);exact zUq rfl rfl h1 (by omega) rfl
 | mtch _ i n r u a ks ns d _ hfr hd hk hl ha hw =>
  have e1:qV p 1 ev (.mk i 10 n r u (a::ks) ns) V s=yE ev (.mk i 10 n r u (a::ks) ns) V s:=by simp[qV]
  rw[e1];refine zLb h (.inr (.inr (.inr (.inl rfl)))) rfl ha hV hN hs hB fun v s1 h1 hB1 hty=>?_
  obtain⟨_,q,x,hm,rfl,hxt⟩:=(hty.1.def_inv hd).resolve_left (fun h=>by omega);have hq:q<ks.length:=by omega
  exact zUr rfl rfl hq (by have:=(hsl d (zAk hd).1).1; omega) (h.ok ks[q] _ s1 h1 (.of (hw q hq) (hV.push ⟨hxt,zEC hty.2 (by simp[zS])⟩) (hN.push (.of (hV.ids hfr) q))) hB1)
 | fold _ i n r u l z b ns v _ hfr hl' hs' hb =>
  have e1:qV p 1 ev (.mk i 12 n r u [l,z,b] ns) V s=yE ev (.mk i 12 n r u [l,z,b] ns) V s:=by simp[qV]
  rw[e1];refine zLb h (.inr (.inr (.inr (.inr rfl)))) rfl hl' hV hN hs hB fun v s1 h1 hB1 hty=>?_
  obtain⟨vs,rfl,hvs⟩:=hty.1.list_inv;have hfv:=hV.ids hfr;have ht2:=h.snd z B V s1 _ hs' hV;refine zW3 h.stop rfl rfl (h.ok z V s1 h1 (.of hs' hV hN) hB1) fun x a s2 h2 ⟨j,hj,hx⟩=>?_
  have hxm:=jC1 hx;have hty2:=zLq h.stop h.snd hV hb (vs.take j) (ev z V s1) (fun x hx=>⟨hvs x (jBy hx),zEC hty.2 (jBy hx)⟩) ht2;have hfu:=zGD h.fu V i b (vs.take j) (ev z V s1) (h.fu z V s1 hB1);rw[show (Exp.mk i 12 n r u [l,z,b] ns).id=i from rfl]at hj;rw[hj]at hty2 hfu;exact h.ok b _ s2 h2 (.of hb ((hV.push ⟨hvs x hxm,zEC hty.2 hxm⟩).push (hty2 h2)) ((hN.push (.of hfv 0)).push (.push hfv (by decide) _))) hfu
theorem zTn (hp:zTX p)(hsl:qCt p)(hF:F≤1000000):∀n:Nat,(n:Int)≤F→IhE p F n (jU p 1 n)
 | 0,_=>⟨zAL p 1 0,zEE hp 1 0,zDG (zLs _) 1 0,fun e V s hs hA hB=>by rw[jU,if_neg (by simp[hs])];exact zMS hB.2⟩
 | n+1,hn=>⟨zAL p 1 (n+1),zEE hp 1 (n+1),zDG (zLs _) 1 (n+1),fun e V s hs hA hB=>by
  rw[jU,if_neg (by simp[hs])];split
  ·rename_i hu; exact zMS hu
  ·rename_i hu;obtain⟨B,t,he,hV,hN⟩:=hA hs;obtain⟨b1,b2⟩:=hB;exact zWF hF hs hu ⟨b1,by omega⟩ (zUy hp hsl (zTn hp hsl hF n (by omega)) he hV hN (by exact hs) ⟨by show 0≤s.fuel-1; omega,by show s.fuel-1≤_; omega⟩)⟩
end
end Go.Proofs.YtdnelmeboihpkaaGreatDoor
