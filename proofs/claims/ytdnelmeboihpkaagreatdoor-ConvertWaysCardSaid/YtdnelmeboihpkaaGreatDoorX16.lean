/-
  eval: nodes in order, bodies.
  trace: nodes.
  The reference's tracer: lists of nodes, bodies.
  eval: branches.
  trace.Call.
  The reference's evaluator: lists of nodes, bodies.
  The reference's tracer: values.
  The reference: the names in types, and what they reach.
  eval: values, nodes.
  The reference's evaluator: values.
  The reference's tracer: nodes.
  The reference: what the types of a definition's slots reach.
  A run with less fuel does the same, until it has no more.
  eval: nodes; the evaluator does what the data says.
  The reference's evaluator: nodes.
  eval.do: the closure that recovers.
  The reference's Call.
-/
import Derived.Test.YtdnelmeboihpkaaGreatDoorX13
import Derived.Test.YtdnelmeboihpkaaGreatDoorX15
import Derived.Test.YtdnelmeboihpkaaGreatDoorX14
import Derived.Test.YtdnelmeboihpkaaGreatDoorX12
import Derived.RecoverIn
import Derived.Tactics
import Derived.Tactics2
set_option linter.unusedVariables false
set_option maxHeartbeats 8000000
set_option maxRecDepth 100000
set_option linter.unusedSimpArgs false
namespace Go.Proofs.YtdnelmeboihpkaaGreatDoor
open Go.Abs
abbrev zOo (x:Int):Value:=.iface 51 (.int .i64 x)
def eS (p:Prg)(F:Int)(s:XS):St:=[.box (zM p++[int F,int (F-s.fuel)])]
structure RP (f:FuncId)(args:List A)(p:Prg)(F:Int)(s:XS)(r:A)(s':XS):Prop where
 ret:s'.fail=0→Ret Tryz.prog f args (eS p F s) r (eS p F s')
 pan:s'.fail≠0→Pan Tryz.prog f args (eS p F s) (zOo s'.fail)
abbrev zLh (p:Prg)(F:Int)(e:Exp)(V:List EVar)(s:XS)(r:Val×XS):Prop:=RP 110 [.ptr 0 0,.agg (zT e),scE V] p F s (.agg (zF r.1)) r.2
structure IhE (p:Prg)(F m:Int)(ev:Evl):Prop where
 stop:zDX ev
 snd:Snd p ev
 fu:∀e V s,Fu m s→Fu m (ev e V s).2
 ok:∀e V s,s.fail=0→Adm p e V s→Fu m s→zLh p F e V s (ev e V s)
@[simp] theorem qKc:zA Tryz.prog 110=true:=by kernel_rfl
@[simp] theorem qKd:zA Tryz.prog 150=true:=by kernel_rfl
@[simp] theorem qKa:zA Tryz.prog 178=true:=by kernel_rfl
section
variable {p:Prg}{F m:Int}{ev:Evl}{e:Exp}{V:List EVar}{s:XS}
def zZJ:K:=G [kMn 6] (G [kMn 7] (Z (G [M 10 1,kN 11 10,kMi 12 0] (K.block 0 (K.loop (G [kB 13 12 11 .lss] (Z (Y 13 ks (K.exit 0)) (Z (K.block 1 (G [kX 14 10 12 15,J 15 14 15,kZ 9 kz1,S 9 15 15] (K.ops [M 16 7,M 17 0,J 18 9 15,M 19 2,kC 20 110 [(kt 17),(kt 18),(kt 19)],kd 21 46 3 1 [ki,ki,kl] [(0,3,(kt 20))],kP 22 46 3 40 16 21,M 7 22]))) (K.ops [kBi 23 12 1 .add,M 12 23]))))))) (G [M 24 7,M 6 24] kr)))
theorem qFQ:zR Tryz.prog Tryz.f176.ntmps (Tryz.f176.body.getD .skip)=some zZJ.erase:=by kernel_rfl
@[simp] theorem qMt:zA Tryz.prog 176=true:=by kernel_rfl
theorem zH4 (h:IhE p F m ev)(V:List EVar)(l:List Exp)(hl6:l.length≤32768)(hs:s.fail=0)(hA:∀k∈l,∀s,Adm p k V s)(hB:Fu m s) :
 RP 176 [.ptr 0 0,.sl l.length (jP l),scE V] p F s (.sl l.length (zK (jE ev V l s).1)) (jE ev V l s).2:=by
 have hP:=eP p;have hst:∀i,Fu m (jE ev V (l.take i) s).2:=fun i=>zFr h.fu V _ _ hB
 have hln:∀i,i≤l.length→(jE ev V (l.take i) s).1.length=i:=fun i hi=>by rw[zCh,jB2]; omega
 have h00:jE ev V [] s=([],s):=rfl;have htk:l.take l.length=l:=jAv;constructor
 ·intro hf;have hpre:∀i,i≤l.length→(jE ev V (l.take i) s).2.fail=0:=fun i hi=>zJG h.stop V l s i l.length hi (by rw[htk]; exact hf)
  refine zI Tryz.func176 rfl qFQ (rs:=[.slot 6]) (by kernel_rfl) ?_;unfold zZJ;simp[eS,hP];intro hl;refine jM (S:=Nat) (fun i=>[(0,.ptr 0 0),(2,scE V),(7,.row 1 i),(10,.sl l.length (jP l)),(11,int l.length),(12,int i)])
   (fun i=>eS p F (jE ev V (l.take i) s).2++[.row false 46 3 i (zK (jE ev V (l.take i) s).1)]) (fun i=>i≤l.length) (fun i=>l.length-i) 0 (by simp)
   ((zA9 (t:=7) (by simp) 46 3).trans (zO [0,1] 0 (by decide) (by simp) (by simp[eS,hP,h00]) (by simp))) ?_
  intro i hi;by_cases hil:i<l.length
  ·have hsn:=zIm ev V l[i] (l.take i) s;rw[←jAa hil]at hsn;have hp1:=hpre (i+1) hil;rw[hsn]at hp1;have hr:=(h.ok l[i] V (jE ev V (l.take i) s).2 (hpre i hi) (hA _ (jA3 hil) _) (hst i)).ret hp1;have hdr:=zBh hil;have hln:=hln i hi;generalize hFn:jE ev V (l.take (i+1)) s=Fn at hsn;subst hsn;generalize hFi:jE ev V (l.take i) s=Fi at *
   obtain⟨vs,si⟩:=Fi;simp only at *
   generalize ev l[i] V si=rk at *
   obtain⟨v,sk⟩:=rk;simp only at *
   simp[eS,hP,hil,hdr,hFi,zT];refine jJ hr [0] (by decide) (by simp[eS,hP]) (by simp[zT]) ?_;simp[eS,hP,zF];refine⟨⟨by simp[maxLen]; omega,by omega⟩,?_⟩;exact zP (i+1) hil (by omega) (zO [0,1] 0 (by decide) (by simp) (by simp[eS,hP,hFn,zAV]) (by simp[qP hil hl]))
  ·have hil:i=l.length:=by omega
   subst hil;rw[htk];generalize jE ev V l s=Fi at *
   obtain⟨vs,si⟩:=Fi;simp;exact zH [0] 1 (by decide) (by simp) (by simp[eS,hP]) (by simp[eS,hP])
 ·intro hf;obtain⟨k,hk,hk0,hk1⟩:=zJF h.stop V l s hs hf;have hpre:∀i,i≤k→(jE ev V (l.take i) s).2.fail=0:=fun i hi=>zJG h.stop V l s i k hi hk0
  rw[←hk1]at hf ⊢;refine zEp Tryz.func176 rfl qFQ (rs:=[.slot 6]) (by kernel_rfl) ?_;unfold zZJ wpF;simp[eS,hP];intro hl;refine jM (S:=Nat) (fun i=>[(0,.ptr 0 0),(2,scE V),(7,.row 1 i),(10,.sl l.length (jP l)),(11,int l.length),(12,int i)])
   (fun i=>eS p F (jE ev V (l.take i) s).2++[.row false 46 3 i (zK (jE ev V (l.take i) s).1)]) (fun i=>i≤k) (fun i=>l.length-i) 0 (by simp)
   ((zA9 (t:=7) (by simp) 46 3).trans (zO [0,1] 0 (by decide) (by simp) (by simp[eS,hP,h00]) (by simp))) ?_
  intro i hi;have hil:i<l.length:=by omega
  have hdr:=zBh hil;have hok:=h.ok l[i] V (jE ev V (l.take i) s).2 (hpre i hi) (hA _ (jA3 hil) _) (hst i);by_cases hik:i<k
  ·have hsn:=zIm ev V l[i] (l.take i) s;rw[←jAa hil]at hsn;have hp1:=hpre (i+1) hik;rw[hsn]at hp1;have hr:=hok.ret hp1;have hln:=hln i (by omega);generalize hFn:jE ev V (l.take (i+1)) s=Fn at hsn;subst hsn;generalize hFi:jE ev V (l.take i) s=Fi at *
   obtain⟨vs,si⟩:=Fi;simp only at *
   generalize ev l[i] V si=rk at *
   obtain⟨v,sk⟩:=rk;simp only at *
   simp[eS,hP,hil,hdr,hFi,zT];refine jJ hr [0] (by decide) (by simp[eS,hP]) (by simp[zT]) ?_;simp[eS,hP,zF];refine⟨⟨by simp[maxLen]; omega,by omega⟩,?_⟩;exact zP (i+1) hik (by omega) (zO [0,1] 0 (by decide) (by simp) (by simp[eS,hP,hFn,zAV]) (by simp[qP hil hl]))
  ·have hik:i=k:=by omega
   subst hik;have hr:=hok.pan hf;generalize hFi:jE ev V (l.take i) s=Fi at *
   obtain⟨vs,si⟩:=Fi;simp only at *
   simp[eS,hP,hil,hdr,hFi,zT];refine zHx hr [0] (by decide) (by simp[eS,hP]) (by simp[zT]) fun τ=>?_
   simp
def zZK:K:=G [kO 4 1,kZ 6 [ki,ki,kl]] (G [⟨none,.mov (some 7) (.const (.pointer none))⟩] (Z (G [D 10 4 8,L 11 10 1,kN 12 11,kMi 13 0] (K.block 0 (K.loop (G [kB 14 13 12 .lss] (Z (Y 14 ks (K.exit 0)) (Z (K.block 1 (G [M 15 13,kX 16 11 13 11,J 17 16 11,kZ 9 kz5,M 8 15,S 9 17 11] (K.dops [(0,0,M 18 7),(1,0,D 19 9 0),(2,0,J 20 19 3),(3,0,M 21 2),(4,0,M 22 8),(5,0,kX 23 21 22 3),(6,0,J 24 23 3),(7,0,kC 25 109 [(kt 18),(kt 20),(kc 0),(kt 24)]),(8,0,M 7 25)]))) (K.ops [kBi 26 13 1 .add,M 13 26]))))))) (G [M 27 0,D 28 4 14,J 29 28 15,M 30 7,kC 31 110 [(kt 27),(kt 29),(kt 30)],S 6 31 3] kr)))
theorem qFR:zR Tryz.prog Tryz.f72.ntmps (Tryz.f72.body.getD .skip)=some zZK.erase:=by kernel_rfl
@[simp] theorem qMw:zA Tryz.prog 72=true:=by kernel_rfl
theorem zOk (h:IhE p F m ev)(d:Dfn)(vs:List Val)(hl:vs.length=d.slots.length)(hd6:d.slots.length≤6)(hs:s.fail=0)(hA:Adm p d.body (zC6 d.slots vs) {s with ds:=s.ds++[d.id]})(hB:Fu m s) :
 RP 72 [.ptr 0 0,.agg (zG d),.sl vs.length (zK vs)] p F s (.agg (zF (zB1 ev d vs s).1)) (zB1 ev d vs s).2:=by
 have hP:=eP p;have hx:zB1 ev d vs s=ev d.body (zC6 d.slots vs) {s with ds:=s.ds++[d.id]}:=by unfold zB1; rw[if_neg (by simp[hs])]
 rw[hx];have he:=h.ok _ _ _ (by exact hs) hA ((zKk m).dfn d.id s hB);generalize ev d.body (zC6 d.slots vs) {s with ds:=s.ds++[d.id]}=r at *
 have hel:=zH6 d.slots vs hl;have hall:(zC6 d.slots vs).take d.slots.length=zC6 d.slots vs:=by rw[←hel]; exact jAv
 constructor
 ·intro hf;refine zI Tryz.func72 rfl qFR (rs:=[.cell 6 3 true]) (by kernel_rfl) ?_;unfold zZK;simp[eS,hP,zG];intro hls;refine jM (S:=Nat) (fun i=>[(0,.ptr 0 0),(2,.sl vs.length (zK vs)),(4,.ptr 1 0),(6,.ptr 2 0),(7,scE ((zC6 d.slots vs).take i)),(11,.sl d.slots.length (yI d.slots)),(12,int d.slots.length),(13,int i)])
   (fun i=>eS p F s++[.box (zG d),.box [int 0,int 0,.nil]]) (fun i=>i≤d.slots.length) (fun i=>d.slots.length-i) 0 (by simp)
   (zO [0,1,2] 0 (by decide) (by simp) (by simp[eS,hP,zG]) (by simp)) ?_
  intro i hi;by_cases hil:i<d.slots.length
  ·have hiv:i<vs.length:=by omega
   have hdr:=yC hil;have hdv:=jL hiv;have htk:=zLI hl hil;have hw:=zCl ((zC6 d.slots vs).take i).reverse ⟨d.slots[i].id,0,vs[i]⟩;simp[eS,hP,hil,hiv,hdr,hdv,yG];refine qK hw (by simp[zC,zF]) (by simp) ?_;simp;exact zP (i+1) hil (by omega) (zO [0,1,2] 0 (by decide) (by simp) (by simp[eS,hP,zG]) (by simp[qP hil hls,htk]))
  ·have hil:i=d.slots.length:=by omega
   subst hil;rw[hall];simp[eS,hP,zG];refine jJ (he.ret hf) [0] (by decide) (by simp[eS,hP]) (by simp[zT]) ?_;simp[eS,hP,zF];exact zH [0] 0 (by decide) (by simp) (by simp) (by simp[zF])
 ·intro hf;refine zEp Tryz.func72 rfl qFR (rs:=[.cell 6 3 true]) (by kernel_rfl) ?_;unfold zZK wpF;simp[eS,hP,zG];intro hls;refine jM (S:=Nat) (fun i=>[(0,.ptr 0 0),(2,.sl vs.length (zK vs)),(4,.ptr 1 0),(6,.ptr 2 0),(7,scE ((zC6 d.slots vs).take i)),(11,.sl d.slots.length (yI d.slots)),(12,int d.slots.length),(13,int i)])
   (fun i=>eS p F s++[.box (zG d),.box [int 0,int 0,.nil]]) (fun i=>i≤d.slots.length) (fun i=>d.slots.length-i) 0 (by simp)
   (zO [0,1,2] 0 (by decide) (by simp) (by simp[eS,hP,zG]) (by simp)) ?_
  intro i hi;by_cases hil:i<d.slots.length
  ·have hiv:i<vs.length:=by omega
   have hdr:=yC hil;have hdv:=jL hiv;have htk:=zLI hl hil;have hw:=zCl ((zC6 d.slots vs).take i).reverse ⟨d.slots[i].id,0,vs[i]⟩;simp[eS,hP,hil,hiv,hdr,hdv,yG];refine qK hw (by simp[zC,zF]) (by simp) ?_;simp;exact zP (i+1) hil (by omega) (zO [0,1,2] 0 (by decide) (by simp) (by simp[eS,hP,zG]) (by simp[qP hil hls,htk]))
  ·have hil:i=d.slots.length:=by omega
   subst hil;rw[hall];simp[eS,hP,zG];refine zHx (he.pan hf) [0] (by decide) (by simp[eS,hP]) (by simp[zT]) fun τ=>?_
   simp
end
section
variable {p:Prg}{c:Nat}{m:Int}{ev:Evl}{e:Exp}{V:List EVar}{s:XS}
def zZR (p:Prg):Prop:=∀d∈p.defs,d.slots.length≤6∧d.slots.Pairwise fun a b=>a.id≠b.id
theorem zR5 {ss:List Slt}(hnd:ss.Pairwise fun a b=>a.id≠b.id)(vs:List Val)(hl:vs.length=ss.length):NdV (zC6 ss vs):=by
 unfold NdV;rw[jBv];intro i j hi hj hij e;have hi':i<ss.length:=by rw[zH6 ss vs hl]at hi; exact hi
 have hj':j<ss.length:=by rw[zH6 ss vs hl]at hj; exact hj
 have:=jBv.1 hnd i j hi' hj' hij;have e1:(zC6 ss vs)[i].id=ss[i].id:=by simp[zC6]
 have e2:(zC6 ss vs)[j].id=ss[j].id:=by simp[zC6]
 exact this (by rw[←e1,←e2]; exact e.1)
end
section
variable {p:Prg}{c:Nat}{m:Int}{ev:Evl}{e:Exp}{V:List EVar}{s:XS}
end
def zAD (ev:Evl)(e:Exp)(V:List EVar)(v:Val)(s:XS):Val×XS :=
 if e.k=5 then ev (e.kids.getD (if v.n=1 then 1 else 2) .zero) V s
 else if e.k=6 then ev (e.kids.getD 1 .zero) (V++[⟨e.id,0,v⟩]) s
 else if e.k=8 then (v.kids.getD e.n.toNat vz,s)
 else if e.k=10 then ev (e.kids.getD (1+v.n).toNat .zero) (V++[⟨e.id,v.n,v.kids.headD vz⟩]) s
 else yJ ev V e.id (e.kids.getD 2 .zero) v.kids (ev (e.kids.getD 1 .zero) V s)
theorem zSr {ev:Evl}{e:Exp}{V:List EVar}{s:XS}(h:(ev (e.kids.headD .zero) V s).2.fail=0):zAt ev e V s=zAD ev e V (ev (e.kids.headD .zero) V s).1 (ev (e.kids.headD .zero) V s).2:=by unfold zAt zAD;rw[if_neg (fun hn=>hn h)]
section
variable {p:Prg}{F m:Int}{ev:Evl}{B:List Bnd}{e:Exp}{V:List EVar}{v:Val}{s:XS}
def zIj:K:=G [kO 5 1,kO 7 3,kZ 8 [ki,ki,kl]] (Z (G [D 12 5 3,L 13 12 1] (K.block 0 (G [kQi 15 13 5 false,M 14 15] (Y 14 (Z (G [D 16 7 1,L 17 16 1,kQi 18 17 0 true] (Y 18 (G [M 19 0,D 20 5 13,L 21 20 1,kXi 22 21 15 1,J 23 22 15,M 24 2,kC 25 110 [(kt 19),(kt 23),(kt 24)],S 8 25 3] kr) ks)) (G [M 26 0,D 27 5 13,L 28 27 1,kXi 29 28 15 2,J 30 29 15,M 31 2,kC 32 110 [(kt 26),(kt 30),(kt 31)],S 8 32 3] kr)) (G [kQi 34 13 6 false,M 33 34] (Y 33 (Z (K.dops [(0,0,M 35 0),(1,0,D 36 5 13),(2,0,L 37 36 1),(3,0,kXi 38 37 15 1),(4,0,J 39 38 15),(5,0,M 40 2),(6,0,D 41 5 0),(7,0,J 42 41 3),(8,0,J 43 7 3),(9,0,kC 44 109 [(kt 40),(kt 42),(kc 0),(kt 43)]),(10,10,kC 45 110 [(kt 35),(kt 39),(kt 44)]),(11,0,S 8 45 3)]) kr) (G [kQi 47 13 8 false,M 46 47] (Y 46 (G [D 48 7 2,L 49 48 1,D 50 5 4,L 51 50 1,kX 52 49 51 3,J 53 52 3,S 8 53 3] kr) (G [kQi 55 13 10 false,M 54 55] (Y 54 (Z (K.dops [(0,0,M 56 0),(1,0,D 57 5 13),(2,0,L 58 57 1),(3,0,D 59 7 1),(4,0,L 60 59 1),(5,0,⟨none,.bin (some 61) .add (kc 1) (kt 60)⟩),(6,0,kX 62 58 61 15),(7,0,J 63 62 15),(8,0,M 64 2),(9,0,D 65 5 0),(10,0,J 66 65 3),(11,0,D 67 7 1),(12,0,L 68 67 1),(13,0,D 69 7 2),(14,0,L 70 69 1),(15,0,kXi 71 70 3 0),(16,0,J 72 71 3),(17,0,kC 73 109 [(kt 64),(kt 66),(kt 68),(kt 72)]),(18,10,kC 74 110 [(kt 56),(kt 63),(kt 73)]),(19,0,S 8 74 3)]) kr) ks)))))))))) (G [M 75 0,D 76 5 13,L 77 76 1,kXi 78 77 15 1,J 79 78 15,M 80 2,kC 81 110 [(kt 75),(kt 79),(kt 80)],kZ 9 [ki,ki,kl],S 9 81 3] (Z (G [D 82 7 2,
 L 83 82 1,kN 84 83,kMi 85 0] (K.block 1 (K.loop (G [kB 86 85 84 .lss] (Z (Y 86 ks (K.exit 1)) (Z (K.block 2 (G [kX 87 83 85 3,J 88 87 3,kZ 11 [ki,ki,kl],S 11 88 3] (K.dops [(0,0,M 89 0),(1,0,D 90 5 13),(2,0,L 91 90 1),(3,0,kXi 92 91 15 2),(4,0,J 93 92 15),(5,0,M 94 2),(6,0,D 95 5 0),(7,0,J 96 95 3),(8,0,J 97 11 3),(9,0,kC 98 109 [(kt 94),(kt 96),(kc 0),(kt 97)]),(10,0,D 99 5 0),(11,0,J 100 99 3),(12,0,J 101 9 3),(13,0,kC 102 109 [(kt 98),(kt 100),(kc 1),(kt 101)]),(14,10,kC 103 110 [(kt 89),(kt 93),(kt 102)]),(15,0,S 9 103 3)]))) (K.ops [kBi 104 85 1 .add,M 85 104]))))))) (G [J 105 9 3,S 8 105 3] kr))))
def qNH:Nat→Option (List (Nat×Nat)):=fun r=>match r with | 7=>some [(0,0),(1,0),(2,0),(3,0),(4,0),(5,0),(6,0),(7,0),(8,0),(9,0),(10,10),(11,0)] | 11=>some [(0,0),(1,0),(2,0),(3,0),(4,0),(5,0),(6,0),(7,0),(8,0),(9,0),(10,0),(11,0),(12,0),(13,0),(14,0),(15,0),(16,0),(17,0),(18,10),(19,0)] | 16=>some [(0,0),(1,0),(2,0),(3,0),(4,0),(5,0),(6,0),(7,0),(8,0),(9,0),(10,0),(11,0),(12,0),(13,0),(14,10),(15,0)] | _=>none
theorem zJw:qE Tryz.prog Tryz.f178.ntmps qNH (Tryz.f178.body.getD .skip)=some zIj.erase:=by kernel_rfl
@[simp] theorem qMv:zA Tryz.prog 178=true:=by kernel_rfl
abbrev BrE (p:Prg)(F:Int)(e:Exp)(V:List EVar)(v:Val)(s:XS)(r:Val×XS):Prop:=RP 178 [.ptr 0 0,.agg (zT e),scE V,.agg (zF v)] p F s (.agg (zF r.1)) r.2
theorem zWL {a b d:Exp}{x:Int}(hx:x=0∨x=1)(hk:e.k=5)(hks:e.kids=[a,b,d])(hb:zLh p F b V s (ev b V s))(hd:zLh p F d V s (ev d V s)):BrE p F e V (.mk 1 x []) s (zAD ev e V (.mk 1 x []) s):=by
 have hP:=eP p;have hY:zAD ev e V (.mk 1 x []) s=ev (if x=1 then b else d) V s:=by unfold zAD;rw[hks];rcases hx with rfl | rfl<;>simp[hk,qO]
 rw[hY];rcases hx with rfl | rfl
 ·rw[if_neg (by decide)];generalize ev d V s=r at *
  constructor
  ·intro hf;refine qL Tryz.func178 rfl zJw (rs:=[.cell 8 3 true]) (by kernel_rfl) ?_;unfold zIj;simp[eS,hP,zT,zF,hk,hks,zW,jO,qO,zV];refine jJ (hd.ret hf) [0] (by decide) (by simp[eS,hP]) (by simp[zT]) ?_;simp[eS,hP,zF];exact zH [0] 0 (by decide) (by simp) (by simp) (by simp[zF])
  ·intro hf;refine zAo Tryz.func178 rfl zJw (rs:=[.cell 8 3 true]) (by kernel_rfl) ?_;unfold zIj wpF;simp[eS,hP,zT,zF,hk,hks,zW,jO,qO,zV];refine zHx (hd.pan hf) [0] (by decide) (by simp[eS,hP]) (by simp[zT]) fun τ=>?_
   simp
 ·rw[if_pos rfl];generalize ev b V s=r at *
  constructor
  ·intro hf;refine qL Tryz.func178 rfl zJw (rs:=[.cell 8 3 true]) (by kernel_rfl) ?_;unfold zIj;simp[eS,hP,zT,zF,hk,hks,zW,jO,qO,zV];refine jJ (hb.ret hf) [0] (by decide) (by simp[eS,hP]) (by simp[zT]) ?_;simp[eS,hP,zF];exact zH [0] 0 (by decide) (by simp) (by simp) (by simp[zF])
  ·intro hf;refine zAo Tryz.func178 rfl zJw (rs:=[.cell 8 3 true]) (by kernel_rfl) ?_;unfold zIj wpF;simp[eS,hP,zT,zF,hk,hks,zW,jO,qO,zV];refine zHx (hb.pan hf) [0] (by decide) (by simp[eS,hP]) (by simp[zT]) fun τ=>?_
   simp
theorem zWM {a b:Exp}(hk:e.k=6)(hks:e.kids=[a,b])(hb:zLh p F b (V++[⟨e.id,0,v⟩]) s (ev b (V++[⟨e.id,0,v⟩]) s)):BrE p F e V v s (zAD ev e V v s):=by
 have hP:=eP p;have hY:zAD ev e V v s=ev b (V++[⟨e.id,0,v⟩]) s:=by unfold zAD;rw[hks];simp[hk]
 rw[hY];generalize ev b (V++[⟨e.id,0,v⟩]) s=r at *
 have hw:=zCl V.reverse ⟨e.id,0,v⟩;constructor
 ·intro hf;refine qL Tryz.func178 rfl zJw (rs:=[.cell 8 3 true]) (by kernel_rfl) ?_;unfold zIj;simp[eS,hP,zT,zF,hk,hks,zW,jO,qO,zV];refine qK hw (by simp[zC,zF]) (by simp) ?_;simp[eS,hP];refine zBV (hb.ret hf) [0] (by decide) (by simp[eS,hP]) (by simp[zT]) ?_;simp[eS,hP,zF];exact zH [0] 0 (by decide) (by simp) (by simp) (by simp[zF])
 ·intro hf;refine zAo Tryz.func178 rfl zJw (rs:=[.cell 8 3 true]) (by kernel_rfl) ?_;unfold zIj wpF;simp[eS,hP,zT,zF,hk,hks,zW,jO,qO,zV];refine qK hw (by simp[zC,zF]) (by simp) ?_;simp[eS,hP];refine zCU (hb.pan hf) [0] (by decide) (by simp[eS,hP]) (by simp[zT]) fun τ=>?_
  simp
theorem zS2 {a:Exp}{vs:List Val}{j:Nat}(hk:e.k=8)(hn:e.n=j)(hs:s.fail=0)(hj:j<vs.length)(hks:e.kids=[a]):BrE p F e V (.mk 2 0 vs) s (zAD ev e V (.mk 2 0 vs) s):=by
 have hP:=eP p;have hY:zAD ev e V (.mk 2 0 vs) s=(vs[j],s):=by unfold zAD;simp[hk,hn,zV,hj]
 rw[hY];refine⟨fun _=>?_,fun hf=>(hf hs).elim⟩;refine qL Tryz.func178 rfl zJw (rs:=[.cell 8 3 true]) (by kernel_rfl) ?_;unfold zIj;simp[eS,hP,zT,zF,hk,hks,zW,jO,qO,zV,hn,hj,jL hj];exact zH [0] 0 (by decide) (by simp) (by simp) (by simp[zF])
theorem zS3 {a:Exp}{ks:List Exp}{q:Nat}{x:Val}(hk:e.k=10)(hks:e.kids=a::ks)(hq:q<ks.length)(hl6:ks.length≤32768)(hb:zLh p F ks[q] (V++[⟨e.id,q,x⟩]) s (ev ks[q] (V++[⟨e.id,q,x⟩]) s)):BrE p F e V (.mk 3 q [x]) s (zAD ev e V (.mk 3 q [x]) s):=by
 have hP:=eP p;have e2:(1+(q:Int)).toNat=q+1:=by omega
 have hw1:IntKind.i64.wrap (1+(q:Int))=((q+1:Nat):Int):=by rw[IntWalk.i64_in _ (by omega)]; omega
 have hY:zAD ev e V (.mk 3 q [x]) s=ev ks[q] (V++[⟨e.id,q,x⟩]) s:=by unfold zAD;rw[hks];simp[hk,qO,zV,e2,hq]
 rw[hY];generalize ev ks[q] (V++[⟨e.id,q,x⟩]) s=r at *
 have hw:=zCl V.reverse ⟨e.id,q,x⟩;have hdr:(jP (a::ks)).drop ((q+1)*15)=zT ks[q]++jP (ks.drop (q+1)):=by
  have:=zBh (l:=a::ks) (i:=q+1) (by simpa using hq)
  simpa using this
 have hlt:q+1<(a::ks).length:=by simpa using hq
 generalize hQ:a::ks=Q at *
 obtain⟨M,hM⟩:∃M,M=q+1:=⟨_,rfl⟩;rw[←hM]at hw1 hdr hlt;constructor
 ·intro hf;refine qL Tryz.func178 rfl zJw (rs:=[.cell 8 3 true]) (by kernel_rfl) ?_;unfold zIj;simp[eS,hP,zT,zF,hk,hks,jO,qO,zV,hw1,hlt,hdr];refine qK hw (by simp[zC,zF]) (by simp) ?_;simp[eS,hP];refine zBV (hb.ret hf) [0] (by decide) (by simp[eS,hP]) (by simp[zT]) ?_;simp[eS,hP,zF];exact zH [0] 0 (by decide) (by simp) (by simp) (by simp[zF])
 ·intro hf;refine zAo Tryz.func178 rfl zJw (rs:=[.cell 8 3 true]) (by kernel_rfl) ?_;unfold zIj wpF;simp[eS,hP,zT,zF,hk,hks,jO,qO,zV,hw1,hlt,hdr];refine qK hw (by simp[zC,zF]) (by simp) ?_;simp[eS,hP];refine zCU (hb.pan hf) [0] (by decide) (by simp[eS,hP]) (by simp[zT]) fun τ=>?_
  simp
theorem zU5 {l z b:Exp}{vs:List Val}(h:zDX ev)(hk:e.k=12)(hks:e.kids=[l,z,b])(hz:zLh p F z V s (ev z V s))(hb:∀x a s',s'.fail=0→(∃i,(yJ ev V e.id b (vs.take i) (ev z V s))=(a,s')∧vs[i]?=some x)→zLh p F b (V++[⟨e.id,0,x⟩]++[⟨e.id,1,a⟩]) s' (ev b (V++[⟨e.id,0,x⟩]++[⟨e.id,1,a⟩]) s')) :
 BrE p F e V (.mk 4 0 vs) s (zAD ev e V (.mk 4 0 vs) s):=by
 have hP:=eP p;have hY:zAD ev e V (.mk 4 0 vs) s=yJ ev V e.id b vs (ev z V s):=by unfold zAD;rw[hks];simp[hk,zV]
 rw[hY];have htk:vs.take vs.length=vs:=jAv;generalize ev z V s=r at *
 by_cases hr0:r.2.fail=0
 ·have hz:=hz.ret hr0;constructor
  ·intro hf;have hpre:∀i,i≤vs.length→(yJ ev V e.id b (vs.take i) r).2.fail=0:=fun i hi=>zI1 h V e.id b vs r i vs.length hi (by rw[htk]; exact hf)
   refine qL Tryz.func178 rfl zJw (rs:=[.cell 8 3 true]) (by kernel_rfl) ?_;unfold zIj;simp[eS,hP,zT,zF,hk,hks,zW,jO,qO,zV];refine jJ hz [0] (by decide) (by simp[eS,hP]) (by simp[zT]) ?_;simp[eS,hP,zF];intro hls;refine jM (S:=Nat) (fun i=>[(0,.ptr 0 0),(2,scE V),(5,.ptr 1 0),(8,.ptr 3 0),(9,.ptr 4 0),(83,.sl vs.length (zK vs)),(84,int vs.length),(85,int i)])
    (fun i=>eS p F (yJ ev V e.id b (vs.take i) r).2++[.box (zT e),.box (zF (.mk 4 0 vs)),.box [int 0,int 0,.nil],.box (zF (yJ ev V e.id b (vs.take i) r).1)]) (fun i=>i≤vs.length) (fun i=>vs.length-i) 0 (by simp)
    (zO [0,1,2,3,4] 0 (by decide) (by simp) (by simp[eS,hP,zT,zF,hks,zW,hk,yJ,jO,qO,zV]) (by simp)) ?_
   intro i hi;by_cases hil:i<vs.length
   ·have hw0:=zCl V.reverse ⟨e.id,0,vs[i]⟩;have hsn:=zHa ev V e.id b vs[i] (vs.take i) r;rw[←jAa hil]at hsn;have hdr:=jL hil;have HP1:=hpre (i+1) hil;have hok:=hb vs[i] _ _ (hpre i hi) ⟨i,rfl,jA2 hil⟩;generalize hFn:yJ ev V e.id b (vs.take (i+1)) r=Fn at hsn HP1;subst hsn;generalize hFi:yJ ev V e.id b (vs.take i) r=Fi at *
    obtain⟨acc,si⟩:=Fi;simp only at *
    have hw1:=zCl (⟨e.id,0,vs[i]⟩::V.reverse) ⟨e.id,1,acc⟩;generalize ev b (V++[⟨e.id,0,vs[i]⟩]++[⟨e.id,1,acc⟩]) si=rk at *
    obtain⟨v',sk⟩:=rk;simp only at *
    simp[eS,hP,zT,zF,hil,hdr,hks,zW,hFi,jO,qO,zV];refine qK hw0 (by simp[zC,zF]) (by simp) ?_;simp[eS,hP];refine qK hw1 (by simp[zC,zF]) (by simp) ?_;simp[eS,hP];refine zBV (hok.ret HP1) [0] (by decide) (by simp[eS,hP]) (by simp[zT]) ?_;simp[eS,hP,zF];exact zP (i+1) hil (by omega) (zO [0,1,2,3,4] 0 (by decide) (by simp) (by simp[eS,hP,zT,zF,hks,zW,hFn,hk,jO,qO,zV]) (by simp[qP hil hls]))
   ·have hil:i=vs.length:=by omega
    subst hil;rw[htk];simp[eS,hP,zF];exact zH [0] 0 (by decide) (by simp) (by simp) (by simp[zF])
  ·intro hf;obtain⟨k,hk1,hk0,hk2⟩:=zJe h V e.id b vs r hr0 hf;have hpre:∀i,i≤k→(yJ ev V e.id b (vs.take i) r).2.fail=0:=fun i hi=>zI1 h V e.id b vs r i k hi hk0
   rw[←hk2]at hf ⊢;refine zAo Tryz.func178 rfl zJw (rs:=[.cell 8 3 true]) (by kernel_rfl) ?_;unfold zIj wpF;simp[eS,hP,zT,zF,hk,hks,zW,jO,qO,zV];refine jJ hz [0] (by decide) (by simp[eS,hP]) (by simp[zT]) ?_;simp[eS,hP,zF];intro hls;refine jM (S:=Nat) (fun i=>[(0,.ptr 0 0),(2,scE V),(5,.ptr 1 0),(8,.ptr 3 0),(9,.ptr 4 0),(83,.sl vs.length (zK vs)),(84,int vs.length),(85,int i)])
    (fun i=>eS p F (yJ ev V e.id b (vs.take i) r).2++[.box (zT e),.box (zF (.mk 4 0 vs)),.box [int 0,int 0,.nil],.box (zF (yJ ev V e.id b (vs.take i) r).1)]) (fun i=>i≤k) (fun i=>vs.length-i) 0 (by simp)
    (zO [0,1,2,3,4] 0 (by decide) (by simp) (by simp[eS,hP,zT,zF,hks,zW,hk,yJ,jO,qO,zV]) (by simp)) ?_
   intro i hi;have hil:i<vs.length:=by omega
   have hw0:=zCl V.reverse ⟨e.id,0,vs[i]⟩;have hsn:=zHa ev V e.id b vs[i] (vs.take i) r;rw[←jAa hil]at hsn;have hdr:=jL hil;have hok:=hb vs[i] _ _ (hpre i hi) ⟨i,rfl,jA2 hil⟩;by_cases hik:i<k
   ·have HP1:=hpre (i+1) hik;generalize hFn:yJ ev V e.id b (vs.take (i+1)) r=Fn at hsn HP1;subst hsn;generalize hFi:yJ ev V e.id b (vs.take i) r=Fi at *
    obtain⟨acc,si⟩:=Fi;simp only at *
    have hw1:=zCl (⟨e.id,0,vs[i]⟩::V.reverse) ⟨e.id,1,acc⟩;generalize ev b (V++[⟨e.id,0,vs[i]⟩]++[⟨e.id,1,acc⟩]) si=rk at *
    obtain⟨v',sk⟩:=rk;simp only at *
    simp[eS,hP,zT,zF,hil,hdr,hks,zW,hFi,jO,qO,zV];refine qK hw0 (by simp[zC,zF]) (by simp) ?_;simp[eS,hP];refine qK hw1 (by simp[zC,zF]) (by simp) ?_;simp[eS,hP];refine zBV (hok.ret HP1) [0] (by decide) (by simp[eS,hP]) (by simp[zT]) ?_;simp[eS,hP,zF];exact zP (i+1) hik (by omega) (zO [0,1,2,3,4] 0 (by decide) (by simp) (by simp[eS,hP,zT,zF,hks,zW,hFn,hk,jO,qO,zV]) (by simp[qP hil hls]))
   ·have hik:i=k:=by omega
    subst hik;have HP1:=hf;generalize hFn:yJ ev V e.id b (vs.take (i+1)) r=Fn at hsn HP1;subst hsn;generalize hFi:yJ ev V e.id b (vs.take i) r=Fi at *
    obtain⟨acc,si⟩:=Fi;simp only at *
    have hw1:=zCl (⟨e.id,0,vs[i]⟩::V.reverse) ⟨e.id,1,acc⟩;generalize ev b (V++[⟨e.id,0,vs[i]⟩]++[⟨e.id,1,acc⟩]) si=rk at *
    obtain⟨v',sk⟩:=rk;simp only at *
    simp[eS,hP,zT,zF,hil,hdr,hks,zW,hFi,jO,qO,zV];refine qK hw0 (by simp[zC,zF]) (by simp) ?_;simp[eS,hP];refine qK hw1 (by simp[zC,zF]) (by simp) ?_;simp[eS,hP];refine zCU (hok.pan HP1) [0] (by decide) (by simp[eS,hP]) (by simp[zT]) fun τ=>?_
    simp
 ·have hx:(yJ ev V e.id b vs r).2=r.2:=zDq h V e.id b vs r hr0;unfold BrE;rw[hx];refine⟨fun hf=>(hr0 hf).elim,fun hf=>?_⟩;refine zAo Tryz.func178 rfl zJw (rs:=[.cell 8 3 true]) (by kernel_rfl) ?_;unfold zIj wpF;simp[eS,hP,zT,zF,hk,hks,zW,jO,qO,zV];refine zHx (hz.pan hf) [0] (by decide) (by simp[eS,hP]) (by simp[zT]) fun τ=>?_
  simp
end
def zEs (p:Prg)(d:Dfn)(vs:List Val)(fuel:Int):Val×XS:=zB1 (zAv p 1 fuel.toNat) d vs ⟨fuel,0,zQP p d.slots [],[]⟩
theorem zLO {P:Prg}:∀{ts:List Typ} {vs:List Val},vs.length=ts.length→(∀(j:Nat) (h1:j<ts.length) (h2:j<vs.length),zB5 P ts[j] vs[j]=true)→zBT P ts vs=true
 | [],[],_,_=>rfl
 | t::ts,v::vs,hl,h=>by rw[zBT,jA6];exact⟨h 0 (by simp) (by simp),zLO (by simpa using hl) fun j h1 h2=>h (j+1) (by simpa using h1) (by simpa using h2)⟩
 | [],v::vs,hl,_=>by simp at hl
 | t::ts,[],hl,_=>by simp at hl
theorem zSp {d:Dfn}(h:zPO d.kind=true):zGL d=true:=by simp[zPO]at h;simp[zGL];omega
theorem zSq {p:Prg}{hs:List Hd}(hf:Fit p hs):zZR p:=fun d hd=>⟨(hf.slots d hd).2.1,(hf.slots d hd).2.2.2.1⟩
def uS (p:Prg)(F:Int)(s:XS):St:=[.box (zM p++[int F,int (F-s.fuel),int s.fail])]
@[simp] theorem qNu:zA Tryz.prog 171=true:=by kernel_rfl
@[simp] theorem qNv:zA Tryz.prog 186=true:=by kernel_rfl
@[simp] theorem qNt:zA Tryz.prog 142=true:=by kernel_rfl
section
variable {p:Prg}{F:Int}{c:Nat}{m:Int}{ev:Evl}{e:Exp}{V:List EVar}{s:XS}
@[simp] theorem qNo:zA Tryz.prog 199=true:=by kernel_rfl
@[simp] theorem qNp:zA Tryz.prog 142=true:=by kernel_rfl
end
section
variable {p:Prg}{c:Nat}{m:Int}{ev:Evl}{e:Exp}{V:List EVar}{s:XS}
section
end
end
theorem zXw {p:Prg}{hs:List Hd}(hf:Fit p hs){r:Nat}{t:Typ}(ht:TyOk hs r t){x:Id}:Nam t x→x∈p.defs.map Dfn.id:=by
 induction ht with
 | int r=>intro hx; cases hx with
  | here _ h=>simp at h
  | kid _ k x h=>simp at h
 | bool r=>intro hx; cases hx with
  | here _ h=>simp at h
  | kid _ k x h=>simp at h
 | list r t h ih=>intro hx; cases hx with
  | here _ h=>simp at h
  | kid _ k x h hx' =>
   simp only[Typ.kids_mk,jAn]at h;subst h;exact ih hx'
 | dfn r k h h1 h2 h3 h4 ih=>intro hx; cases hx with
  | here _ h' =>
   obtain⟨d,hd,_⟩:=hf.hd k h;obtain⟨a,b⟩:=zAz hd;exact jAm.2 ⟨d,a,b⟩
  | kid _ k x h=>simp at h
structure RS (p:Prg)(L:List Id):Prop where
 ss:SS L
 sub:∀x∈L,x∈p.defs.map Dfn.id
theorem RS.len {p:Prg}{hs:List Hd}(hf:Fit p hs){L:List Id}(h:RS p L):L.length≤100:=by
 have hn:L.Nodup:=by have:=h.ss;unfold SS at this;exact this.imp fun {a b} hab e=>by subst e; simp[zBu]at hab
 have:=hn.length_le_of_subset (l₂:=p.defs.map Dfn.id) h.sub;have:=hf.len8;simp at *
 omega
theorem RS.nam {p:Prg}{hs:List Hd}(hf:Fit p hs){L:List Id}(h:RS p L){r:Nat}{t:Typ}(ht:TyOk hs r t):RS p (zOX t L) :=
 ⟨zRR t L h.ss,fun x hx=>by
  rcases (zOY t L x).1 hx with hx | hx
  ·exact h.sub x hx
  ·exact zXw hf ht hx⟩
theorem RS.fold {p:Prg} {α : Type}(g : α→List Id→List Id):∀(l:List α) (L:List Id),(∀a∈l,∀L,RS p L→RS p (g a L))→RS p L→RS p (l.foldl (fun L a=>g a L) L)
 | [],L,_,h=>h
 | a::l,L,hg,h=>by rw[jBz];exact RS.fold g l _ (fun b hb=>hg b (by simp[hb])) (hg a (by simp) L h)
section
variable {p:Prg}{F m:Int}{ev:Evl}{B:List Bnd}{e:Exp}{V:List EVar}{v:Val}{s:XS}
def zFk:K:=G [kO 4 1,kZ 6 [ki,ki,kl]] (Z (G [D 9 4 3,L 10 9 1] (K.block 0 (G [kQi 12 10 0 false,M 11 12] (Y 11 (G [D 13 4 4,L 14 13 1,kb 15 [ki,ki,kl] [(1,1,(kt 14))],S 6 15 3] kr) (G [kQi 17 10 1 false,M 16 17] (Y 16 (G [D 18 4 4,L 19 18 1,kQi 20 19 0 true,kC 21 174 [(kt 20)],S 6 21 3] kr) (G [kQi 23 10 2 false,M 22 23] (Y 22 (G [M 24 2,D 25 4 5,J 26 25 3,D 27 4 4,L 28 27 1,kb 29 qHz [(0,3,(kt 26)),(3,1,(kt 28))],kC 30 175 [(kt 24),(kt 29)],S 6 30 3] kr) (G [kQi 32 10 3 false,M 31 32] (Y 31 (Z (K.dops [(0,0,M 34 0),(1,0,kU 35 34),(2,1,D 36 35 0),(3,1,J 37 36 2),(4,1,D 38 4 5),(5,1,J 39 38 3),(6,1,kC 40 96 [(kt 37),(kt 39)]),(7,0,M 33 40),(8,0,kE 41 33 0),(9,0,kE 42 33 1),(10,0,kZ 7 kz0),(11,0,S 7 41 31),(12,0,M 8 42)]) (Z (K.wk (K.dops [(0,0,M 43 0),(1,2,J 44 7 31),(2,0,M 45 0),(3,0,D 46 4 13),(4,0,L 47 46 1),(5,0,M 48 2),(6,10,kC 49 176 [(kt 45),(kt 47),(kt 48)]),(7,10,kC 50 72 [(kt 43),(kt 44),(kt 49)]),(8,0,S 6 50 3)])) kr)) (G [kQi 52 10 4 false,M 51 52] (Y 51 (Z (K.wk (K.dops [(0,2,D 53 4 4),(1,2,L 54 53 1),(2,0,M 55 0),(3,0,D 56 4 13),(4,0,L 57 56 1),(5,0,M 58 2),(6,10,kC 59 176 [(kt 55),(kt 57),(kt 58)]),(7,0,kC 60 177 [(kt 54),(kt 59)]),(8,0,S 6 60 3)])) kr) (G [kQi 62 10 7 false,M 61 62] (Y 61 (G [M 63 0,D 64 4 13,L 65 64 1,M 66 2,kC 67 176 [(kt 63),(kt 65),(kt 66)],kb 68 [ki,ki,kl] [(0,1,(kc 2)),(2,1,(kt 67))],S 6 68 3] kr) (G [kQi 70 10 9 false,M 69 70] (Y 69 (Z (K.wk (K.dops [(0,2,D 71 4 4),(1,2,L 72 71 1),(2,0,M 73 0),(3,0,D 74 4 13),(4,0,L 75 74 1),(5,0,
 M 76 2),(6,10,kC 77 176 [(kt 73),(kt 75),(kt 76)]),(7,0,kb 78 [ki,ki,kl] [(0,1,(kc 3)),(1,1,(kt 72)),(2,1,(kt 77))]),(8,0,S 6 78 3)])) kr) (G [kQi 80 10 11 false,M 79 80] (Y 79 (G [M 81 0,D 82 4 13,L 83 82 1,M 84 2,kC 85 176 [(kt 81),(kt 83),(kt 84)],kb 86 [ki,ki,kl] [(0,1,(kc 4)),(2,1,(kt 85))],S 6 86 3] kr) ks)))))))))))))))))) (Z (K.wk (K.dops [(0,0,M 87 0),(1,2,J 88 4 15),(2,0,M 89 2),(3,0,M 90 0),(4,0,D 91 4 13),(5,0,L 92 91 1),(6,0,kXi 93 92 15 0),(7,0,J 94 93 15),(8,0,M 95 2),(9,10,kC 96 110 [(kt 90),(kt 94),(kt 95)]),(10,10,kC 97 178 [(kt 87),(kt 88),(kt 89),(kt 96)]),(11,0,S 6 97 3)])) kr))
def qNJ:Nat→Option (List (Nat×Nat)):=fun r=>match r with | 10=>some [(0,0),(1,2),(2,0),(3,0),(4,0),(5,0),(6,10),(7,10),(8,0)] | 12=>some [(0,2),(1,2),(2,0),(3,0),(4,0),(5,0),(6,10),(7,0),(8,0)] | 16=>some [(0,2),(1,2),(2,0),(3,0),(4,0),(5,0),(6,10),(7,0),(8,0)] | 19=>some [(0,0),(1,2),(2,0),(3,0),(4,0),(5,0),(6,0),(7,0),(8,0),(9,10),(10,10),(11,0)] | _=>none
theorem zFv:qE Tryz.prog Tryz.f150.ntmps qNJ (Tryz.f150.body.getD .skip)=some zFk.erase:=by kernel_rfl
@[simp] theorem qMA:zA Tryz.prog 150=true:=by kernel_rfl
abbrev VaE (p:Prg)(F:Int)(e:Exp)(V:List EVar)(s:XS)(r:Val×XS):Prop:=RP 150 [.ptr 0 0,.agg (zT e),scE V] p F s (.agg (zF r.1)) r.2
abbrev AlE (p:Prg)(F:Int)(e:Exp)(V:List EVar)(s:XS)(r:List Val×XS):Prop:=RP 176 [.ptr 0 0,.sl e.kids.length (jP e.kids),scE V] p F s (.sl e.kids.length (zK r.1)) r.2
@[simp] theorem qDf {σ : St}:zDx 2 σ = []:=rfl
theorem zWU (hs:s.fail=0)(hk:e.k=0):VaE p F e V s (.mk 0 e.n [],s):=by have hP:=eP p;refine⟨fun _=>?_,fun hf=>(hf hs).elim⟩;refine qL Tryz.func150 rfl zFv (rs:=[.cell 6 3 true]) (by kernel_rfl) ?_;unfold zFk;simp[eS,hP,zT,hk];exact zH [0] 0 (by decide) (by simp) (by simp) (by simp[zF,jO,qO,zV])
theorem zUM (hs:s.fail=0)(hk:e.k=1)(hn:e.n=0∨e.n=1):VaE p F e V s (.mk 1 e.n [],s):=by
 have hP:=eP p;have ht:zBI (decide (¬e.n=0))=.mk 1 e.n []:=by rcases hn with h | h<;>rw[h]<;>rfl
 refine⟨fun _=>?_,fun hf=>(hf hs).elim⟩;have hb:=zAG (decide (¬e.n=0));rw[ht]at hb;refine qL Tryz.func150 rfl zFv (rs:=[.cell 6 3 true]) (by kernel_rfl) ?_;unfold zFk;simp[eS,hP,zT,hk];refine qD hb (by simp) (by simp[zF]) ?_;simp[eS,hP,zF];exact zH [0] 0 (by decide) (by simp) (by simp) (by simp[zF,jO,qO,zV])
theorem zWW (hs:s.fail=0)(hk:e.k=2):VaE p F e V s (zEc V e.ref e.n,s):=by
 have hP:=eP p;have hfi:=zUD V.reverse e.ref e.n;have hfe:zJa V.reverse e.ref e.n=zEc V e.ref e.n:=rfl;rw[hfe]at hfi;generalize zEc V e.ref e.n=v at *
 refine⟨fun _=>?_,fun hf=>(hf hs).elim⟩;refine qL Tryz.func150 rfl zFv (rs:=[.cell 6 3 true]) (by kernel_rfl) ?_;unfold zFk;simp[eS,hP,zT,hk];refine qD hfi (by simp[zC]) (by simp[zF]) ?_;simp[eS,hP,zF];exact zH [0] 0 (by decide) (by simp) (by simp) (by simp[zF,jO,qO,zV])
theorem qAM {a:Exp}{ks:List Exp}(hk:e.k=5∨e.k=6∨e.k=8∨e.k=10∨e.k=12)(hks:e.kids=a::ks){r1 r:Val×XS}(ha:zLh p F a V s r1)(hb:r1.2.fail=0→BrE p F e V r1.1 r1.2 r)(hx:r1.2.fail≠0→r.2=r1.2):VaE p F e V s r:=by
 have hP:=eP p;have hk0:¬e.k=0:=by omega
 have hk1:¬e.k=1:=by omega
 have hk2:¬e.k=2:=by omega
 have hk3:¬e.k=3:=by omega
 have hk4:¬e.k=4:=by omega
 have hk7:¬e.k=7:=by omega
 have hk9:¬e.k=9:=by omega
 have hk11:¬e.k=11:=by omega
 have h15:=zW a ks;by_cases h1:r1.2.fail=0
 ·have hb:=hb h1;have ha:=ha.ret h1;constructor
  ·intro hf;refine qL Tryz.func150 rfl zFv (rs:=[.cell 6 3 true]) (by kernel_rfl) ?_;unfold zFk;simp[eS,hP,zT,hk0,hk1,hk2,hk3,hk4,hk7,hk9,hk11];refine⟨_,_,zO (l:=[(0,.ptr 0 0),(2,scE V),(4,.rptr [int e.id.a,int e.id.b,int e.id.c,int e.k,int e.n,int e.ref.a,int e.ref.b,int e.ref.c,int e.typ.k,int e.typ.id.a,int e.typ.id.b,int e.typ.id.c,.sl e.typ.kids.length (jV e.typ.kids),.sl e.kids.length (jP e.kids),.sl e.names.length (zA8 e.names)]),(6,.ptr 1 0)]) (σ':=eS p F s++[.box [int 0,int 0,.nil]]) [0,2] 1 (by decide) (by simp) (by simp[eS,hP]) (by simp[eS,hP,zT]),?_⟩;simp[eS,hP,zT,hks,h15];refine zBV ha [0] (by decide) (by simp[eS,hP]) (by simp[zT]) ?_;simp[eS,hP,zF];refine zBV (hb.ret hf) [0] (by decide) (by simp[eS,hP]) (by simp[zT,zF,hks,h15]) ?_;simp[eS,hP,zF];exact zH [0] 0 (by decide) (by simp) (by simp) (by simp[zF,jO,qO,zV])
  ·intro hf;refine zAo Tryz.func150 rfl zFv (rs:=[.cell 6 3 true]) (by kernel_rfl) ?_;unfold zFk wpF;simp[eS,hP,zT,hk0,hk1,hk2,hk3,hk4,hk7,hk9,hk11];refine⟨_,_,zO (l:=[(0,.ptr 0 0),(2,scE V),(4,.rptr [int e.id.a,int e.id.b,int e.id.c,int e.k,int e.n,int e.ref.a,int e.ref.b,int e.ref.c,int e.typ.k,int e.typ.id.a,int e.typ.id.b,int e.typ.id.c,.sl e.typ.kids.length (jV e.typ.kids),.sl e.kids.length (jP e.kids),.sl e.names.length (zA8 e.names)]),(6,.ptr 1 0)]) (σ':=eS p F s++[.box [int 0,int 0,.nil]]) [0,2] 1 (by decide) (by simp) (by simp[eS,hP]) (by simp[eS,hP,zT]),?_⟩;simp[eS,hP,zT,hks,h15];refine zBV ha [0] (by decide) (by simp[eS,hP]) (by simp[zT]) ?_;simp[eS,hP,zF];refine zCU (hb.pan hf) [0] (by decide) (by simp[eS,hP]) (by simp[zT,zF,hks,h15]) fun τ=>?_
   simp
 ·unfold VaE;rw[hx h1];refine⟨fun hf=>(h1 hf).elim,fun hf=>?_⟩;refine zAo Tryz.func150 rfl zFv (rs:=[.cell 6 3 true]) (by kernel_rfl) ?_;unfold zFk wpF;simp[eS,hP,zT,hk0,hk1,hk2,hk3,hk4,hk7,hk9,hk11];refine⟨_,_,zO (l:=[(0,.ptr 0 0),(2,scE V),(4,.rptr [int e.id.a,int e.id.b,int e.id.c,int e.k,int e.n,int e.ref.a,int e.ref.b,int e.ref.c,int e.typ.k,int e.typ.id.a,int e.typ.id.b,int e.typ.id.c,.sl e.typ.kids.length (jV e.typ.kids),.sl e.kids.length (jP e.kids),.sl e.names.length (zA8 e.names)]),(6,.ptr 1 0)]) (σ':=eS p F s++[.box [int 0,int 0,.nil]]) [0,2] 1 (by decide) (by simp) (by simp[eS,hP]) (by simp[eS,hP,zT]),?_⟩;simp[eS,hP,zT,hks,h15];refine zCU (ha.pan hf) [0] (by decide) (by simp[eS,hP]) (by simp[zT]) fun τ=>?_
  simp
theorem zWV {vs:List Val}{s1:XS}(hk:e.k=7)(hl:vs.length=e.kids.length)(ha:AlE p F e V s (vs,s1)):VaE p F e V s (.mk 2 0 vs,s1):=by
 have hP:=eP p;constructor
 ·intro hf;refine qL Tryz.func150 rfl zFv (rs:=[.cell 6 3 true]) (by kernel_rfl) ?_;unfold zFk;simp[eS,hP,zT,hk];refine jJ (ha.ret hf) [0] (by decide) (by simp[eS,hP]) (by simp) ?_;simp[eS,hP,zF];exact zH [0] 0 (by decide) (by simp) (by simp) (by simp[zF,jO,qO,zV,hl])
 ·intro hf;refine zAo Tryz.func150 rfl zFv (rs:=[.cell 6 3 true]) (by kernel_rfl) ?_;unfold zFk wpF;simp[eS,hP,zT,hk];refine zHx (ha.pan hf) [0] (by decide) (by simp[eS,hP]) (by simp) fun τ=>?_
  simp
theorem zUP {vs:List Val}{s1:XS}(hk:e.k=11)(hl:vs.length=e.kids.length)(ha:AlE p F e V s (vs,s1)):VaE p F e V s (.mk 4 0 vs,s1):=by
 have hP:=eP p;constructor
 ·intro hf;refine qL Tryz.func150 rfl zFv (rs:=[.cell 6 3 true]) (by kernel_rfl) ?_;unfold zFk;simp[eS,hP,zT,hk];refine jJ (ha.ret hf) [0] (by decide) (by simp[eS,hP]) (by simp) ?_;simp[eS,hP,zF];exact zH [0] 0 (by decide) (by simp) (by simp) (by simp[zF,jO,qO,zV,hl])
 ·intro hf;refine zAo Tryz.func150 rfl zFv (rs:=[.cell 6 3 true]) (by kernel_rfl) ?_;unfold zFk wpF;simp[eS,hP,zT,hk];refine zHx (ha.pan hf) [0] (by decide) (by simp[eS,hP]) (by simp) fun τ=>?_
  simp
theorem zUO {vs:List Val}{s1:XS}(hk:e.k=9)(hl:vs.length=e.kids.length)(ha:AlE p F e V s (vs,s1)):VaE p F e V s (.mk 3 e.n vs,s1):=by
 have hP:=eP p;constructor
 ·intro hf;refine qL Tryz.func150 rfl zFv (rs:=[.cell 6 3 true]) (by kernel_rfl) ?_;unfold zFk;simp[eS,hP,zT,hk];refine⟨_,_,zO (l:=[(0,.ptr 0 0),(2,scE V),(4,.rptr [int e.id.a,int e.id.b,int e.id.c,int e.k,int e.n,int e.ref.a,int e.ref.b,int e.ref.c,int e.typ.k,int e.typ.id.a,int e.typ.id.b,int e.typ.id.c,.sl e.typ.kids.length (jV e.typ.kids),.sl e.kids.length (jP e.kids),.sl e.names.length (zA8 e.names)]),(6,.ptr 1 0)]) (σ':=eS p F s++[.box [int 0,int 0,.nil]]) [0,2] 1 (by decide) (by simp) (by simp[eS,hP]) (by simp[eS,hP,zT,hk]),?_⟩;simp[eS,hP,zT,hk];refine zBV (ha.ret hf) [0] (by decide) (by simp[eS,hP]) (by simp) ?_;simp[eS,hP,zF];exact zH [0] 0 (by decide) (by simp) (by simp) (by simp[zF,jO,qO,zV,hl])
 ·intro hf;refine zAo Tryz.func150 rfl zFv (rs:=[.cell 6 3 true]) (by kernel_rfl) ?_;unfold zFk wpF;simp[eS,hP,zT,hk];refine⟨_,_,zO (l:=[(0,.ptr 0 0),(2,scE V),(4,.rptr [int e.id.a,int e.id.b,int e.id.c,int e.k,int e.n,int e.ref.a,int e.ref.b,int e.ref.c,int e.typ.k,int e.typ.id.a,int e.typ.id.b,int e.typ.id.c,.sl e.typ.kids.length (jV e.typ.kids),.sl e.kids.length (jP e.kids),.sl e.names.length (zA8 e.names)]),(6,.ptr 1 0)]) (σ':=eS p F s++[.box [int 0,int 0,.nil]]) [0,2] 1 (by decide) (by simp) (by simp[eS,hP]) (by simp[eS,hP,zT,hk]),?_⟩;simp[eS,hP,zT,hk];refine zCU (ha.pan hf) [0] (by decide) (by simp[eS,hP]) (by simp) fun τ=>?_
  simp
theorem qAN {ts:List Typ}{t:Typ}{vs:List Val}{s1:XS}(hk:e.k=4)(ho:s1.fail=0→OpT e.n ts t∧TyL p ts vs∧∀v∈vs,qC v≤256)(hl:vs.length=e.kids.length)(ha:AlE p F e V s (vs,s1)):VaE p F e V s (opV e.n vs,s1):=by
 have hP:=eP p;constructor
 ·intro hf;obtain⟨ho,hv,hs⟩:=ho hf;have hop:=qAJ ho hv hs;generalize opV e.n vs=r at *
  refine qL Tryz.func150 rfl zFv (rs:=[.cell 6 3 true]) (by kernel_rfl) ?_;unfold zFk;simp[eS,hP,zT,hk];refine⟨_,_,zO (l:=[(0,.ptr 0 0),(2,scE V),(4,.rptr [int e.id.a,int e.id.b,int e.id.c,int e.k,int e.n,int e.ref.a,int e.ref.b,int e.ref.c,int e.typ.k,int e.typ.id.a,int e.typ.id.b,int e.typ.id.c,.sl e.typ.kids.length (jV e.typ.kids),.sl e.kids.length (jP e.kids),.sl e.names.length (zA8 e.names)]),(6,.ptr 1 0)]) (σ':=eS p F s++[.box [int 0,int 0,.nil]]) [0,2] 1 (by decide) (by simp) (by simp[eS,hP]) (by simp[eS,hP,zT,hk]),?_⟩;simp[eS,hP,zT,hk];refine zBV (ha.ret hf) [0] (by decide) (by simp[eS,hP]) (by simp) ?_;simp[eS,hP];refine qK hop (by simp[hl]) (by simp[zF]) ?_;simp[eS,hP,zF];exact zH [0] 0 (by decide) (by simp) (by simp) (by simp[zF,jO,qO,zV])
 ·intro hf;refine zAo Tryz.func150 rfl zFv (rs:=[.cell 6 3 true]) (by kernel_rfl) ?_;unfold zFk wpF;simp[eS,hP,zT,hk];refine⟨_,_,zO (l:=[(0,.ptr 0 0),(2,scE V),(4,.rptr [int e.id.a,int e.id.b,int e.id.c,int e.k,int e.n,int e.ref.a,int e.ref.b,int e.ref.c,int e.typ.k,int e.typ.id.a,int e.typ.id.b,int e.typ.id.c,.sl e.typ.kids.length (jV e.typ.kids),.sl e.kids.length (jP e.kids),.sl e.names.length (zA8 e.names)]),(6,.ptr 1 0)]) (σ':=eS p F s++[.box [int 0,int 0,.nil]]) [0,2] 1 (by decide) (by simp) (by simp[eS,hP]) (by simp[eS,hP,zT,hk]),?_⟩;simp[eS,hP,zT,hk];refine zCU (ha.pan hf) [0] (by decide) (by simp[eS,hP]) (by simp) fun τ=>?_
  simp
theorem zUN {d:Dfn}{vs:List Val}{s1:XS}{r:Val×XS}(hk:e.k=3)(hd:qT p.defs e.ref=some d)(hl:vs.length=e.kids.length)(ha:AlE p F e V s (vs,s1))
 (hb:s1.fail=0→RP 72 [.ptr 0 0,.agg (zG d),.sl vs.length (zK vs)] p F s1 (.agg (zF r.1)) r.2)(hx:s1.fail≠0→r.2=s1):VaE p F e V s r:=by
 have hP:=eP p;by_cases h1:s1.fail=0
 ·have hb:=hb h1;have ha:=ha.ret h1;rw[hl]at hb;constructor
  ·intro hf;refine qL Tryz.func150 rfl zFv (rs:=[.cell 6 3 true]) (by kernel_rfl) ?_;unfold zFk;simp[eS,hP,zT,hk];refine zAJ (zDn p e.ref) (by simp[zM,zC]) (by simp[zBL]) ?_;simp[zBL,hd,zG];refine⟨_,_,zO (l:=[(0,.ptr 0 0),(2,scE V),(4,.rptr [int e.id.a,int e.id.b,int e.id.c,int e.k,int e.n,int e.ref.a,int e.ref.b,int e.ref.c,int e.typ.k,int e.typ.id.a,int e.typ.id.b,int e.typ.id.c,.sl e.typ.kids.length (jV e.typ.kids),.sl e.kids.length (jP e.kids),.sl e.names.length (zA8 e.names)]),(6,.ptr 1 0),(7,.rptr (zG d))]) (σ':=eS p F s++[.box [int 0,int 0,.nil]]) [0,2] 1 (by decide) (by simp) (by simp[eS,hP]) (by simp[eS,hP,zT,zG,hk]),?_⟩;simp[eS,hP,zT,zG,hk];refine zBV ha [0] (by decide) (by simp[eS,hP]) (by simp) ?_;simp[eS,hP];refine zBV (hb.ret hf) [0] (by decide) (by simp[eS,hP]) (by simp[zG]) ?_;simp[eS,hP,zF];exact zH [0] 0 (by decide) (by simp) (by simp) (by simp[zF,jO,qO,zV])
  ·intro hf;refine zAo Tryz.func150 rfl zFv (rs:=[.cell 6 3 true]) (by kernel_rfl) ?_;unfold zFk wpF;simp[eS,hP,zT,hk];refine zAJ (zDn p e.ref) (by simp[zM,zC]) (by simp[zBL]) ?_;simp[zBL,hd,zG];refine⟨_,_,zO (l:=[(0,.ptr 0 0),(2,scE V),(4,.rptr [int e.id.a,int e.id.b,int e.id.c,int e.k,int e.n,int e.ref.a,int e.ref.b,int e.ref.c,int e.typ.k,int e.typ.id.a,int e.typ.id.b,int e.typ.id.c,.sl e.typ.kids.length (jV e.typ.kids),.sl e.kids.length (jP e.kids),.sl e.names.length (zA8 e.names)]),(6,.ptr 1 0),(7,.rptr (zG d))]) (σ':=eS p F s++[.box [int 0,int 0,.nil]]) [0,2] 1 (by decide) (by simp) (by simp[eS,hP]) (by simp[eS,hP,zT,zG,hk]),?_⟩;simp[eS,hP,zT,zG,hk];refine zBV ha [0] (by decide) (by simp[eS,hP]) (by simp) ?_;simp[eS,hP];refine zCU (hb.pan hf) [0] (by decide) (by simp[eS,hP]) (by simp[zG]) fun τ=>?_
   simp
 ·unfold VaE;rw[hx h1];refine⟨fun hf=>(h1 hf).elim,fun hf=>?_⟩;refine zAo Tryz.func150 rfl zFv (rs:=[.cell 6 3 true]) (by kernel_rfl) ?_;unfold zFk wpF;simp[eS,hP,zT,hk];refine zAJ (zDn p e.ref) (by simp[zM,zC]) (by simp[zBL]) ?_;simp[zBL,hd,zG];refine⟨_,_,zO (l:=[(0,.ptr 0 0),(2,scE V),(4,.rptr [int e.id.a,int e.id.b,int e.id.c,int e.k,int e.n,int e.ref.a,int e.ref.b,int e.ref.c,int e.typ.k,int e.typ.id.a,int e.typ.id.b,int e.typ.id.c,.sl e.typ.kids.length (jV e.typ.kids),.sl e.kids.length (jP e.kids),.sl e.names.length (zA8 e.names)]),(6,.ptr 1 0),(7,.rptr (zG d))]) (σ':=eS p F s++[.box [int 0,int 0,.nil]]) [0,2] 1 (by decide) (by simp) (by simp[eS,hP]) (by simp[eS,hP,zT,zG,hk]),?_⟩;simp[eS,hP,zT,zG,hk];refine zCU (ha.pan hf) [0] (by decide) (by simp[eS,hP]) (by simp) fun τ=>?_
  simp
end
section
variable {p:Prg}{F:Int}{c:Nat}{m:Int}{ev:Evl}{e:Exp}{V:List EVar}{s:XS}
@[simp] theorem qNs:zA Tryz.prog 186=true:=by kernel_rfl
section
variable {A:List Val×XS}(hA:Ret Tryz.prog 199 [.ptr 0 0,.sl e.kids.length (jP e.kids),.sl V.length (zCT V)] (uS p F s) (.sl A.1.length (zK A.1)) (uS p F A.2))
include hA
end
end
section
variable {p:Prg}{c:Nat}{m:Int}{ev:Evl}{e:Exp}{V:List EVar}{s:XS}
end
def zSj (d:Dfn)(L:List Id):List Id:=if d.id∈L then namS d.slots L else L
theorem RS.namS {p:Prg}{hs:List Hd}(hf:Fit p hs){ss:List Slt}(h:∀s∈ss,TyOk hs 4 s.typ){L:List Id}(hL:RS p L):RS p (namS ss L) :=
 RS.fold (fun(s:Slt) L=>zOX s.typ L) ss L (fun s hs' L hL=>hL.nam hf (h s hs')) hL
theorem RS.turn {p:Prg}{hs:List Hd}(hf:Fit p hs){d:Dfn}(hd:d∈p.defs){L:List Id}(hL:RS p L):RS p (zSj d L):=by
 unfold zSj;split
 ·exact hL.namS hf (hf.slots d hd).2.2.2.2
 ·exact hL
theorem RS.rnd {p:Prg}{hs:List Hd}(hf:Fit p hs){ds:List Dfn}(hd:∀d∈ds,d∈p.defs){L:List Id}(hL:RS p L):RS p (ds.foldl (fun L d=>zSj d L) L) :=
 RS.fold zSj ds L (fun d hd' L hL=>hL.turn hf (hd d hd')) hL
structure RelX (k:Int)(s s':XS):Prop where
 fuel:s'.fuel=s.fuel-k
 fail:s'.fail=s.fail
 ds:s'.ds=s.ds
 ns:s'.ns=s.ns
def zDL (s' s:XS):Prop:=(∀x∈s'.ds,x∈s.ds)∧∀x∈s'.ns,x∈s.ns
theorem zDL.rfl' (s:XS):zDL s s:=⟨fun _ h=>h,fun _ h=>h⟩
theorem zDL.trans {a b c:XS}(h:zDL a b)(k:zDL b c):zDL a c:=⟨fun x hx=>k.1 x (h.1 x hx),fun x hx=>k.2 x (h.2 x hx)⟩
theorem RelX.sub {k:Int}{s s':XS}(h:RelX k s s'):zDL s' s:=⟨fun x hx=>by rw[←h.ds]; exact hx,fun x hx=>by rw[←h.ns]; exact hx⟩
theorem zWh (s:XS):InvX (zDL s) :=
 ⟨fun e t h _=>⟨h.1,fun x hx=>jBd _ (h.2 x hx)⟩,fun d t h=>⟨fun x hx=>jBd _ (h.1 x hx),h.2⟩,fun x t h=>h⟩
def Grow (ev:Evl):Prop:=∀e V s,zDL s (ev e V s).2
def qFj {α : Type}(k:Int)(r r' : α×XS):Prop:=(RelX k r.2 r'.2∧r'.1=r.1)∨(r'.2.fail≠0∧zDL r'.2 r.2)
theorem qFj.grow {α : Type}{k:Int}{r r' : α×XS}{t : α}{s:XS}(h:r'.2.fail≠0∧zDL r'.2 r.2)(hs:zDL r.2 s):qFj k (t,s) r':=.inr ⟨h.1,h.2.trans hs⟩
section
variable {p:Prg}{k:Int}{ev ev':Evl}
theorem Grow.all (hg:Grow ev)(V:List EVar)(l:List Exp)(s:XS):zDL s (jE ev V l s).2:=zFr (I:=zDL s) (fun e V t ht=>ht.trans (hg e V t)) V l s (zDL.rfl' s)
theorem Grow.fold (hg:Grow ev)(V:List EVar)(i:Id)(b:Exp)(l:List Val)(r:Val×XS):zDL r.2 (yJ ev V i b l r).2:=zGm (I:=zDL r.2) (fun e V t ht=>ht.trans (hg e V t)) V i b l r (zDL.rfl' r.2)
theorem Grow.body (hg:Grow ev)(d:Dfn)(vs:List Val)(s:XS):zDL s (zB1 ev d vs s).2:=zGe (I:=zDL s) (zWh s) (fun e V t ht=>ht.trans (hg e V t)) d vs s (zDL.rfl' s)
end
theorem zRz (C:Int):InvX (fun s=>s.ns.length+s.fuel=C) :=
 ⟨fun e s h hf=>by unfold zDK; simp only[jA5,jC0]; have:(s.ns.length:Int)+s.fuel=C:=h; omega,fun d s h=>h,fun x s h=>h⟩
theorem zVP (p:Prg)(d:Dfn)(vs:List Val)(fuel:Int):((zEs p d vs fuel).2.ns.length:Int)+(zEs p d vs fuel).2.fuel=fuel :=
 zGe (zRz fuel) (zEn (zRz fuel) 1 _) d vs _ (by simp)
theorem zXI (p:Prg)(d:Dfn)(vs:List Val)(fuel:Int)(h:0≤fuel):0≤(zEs p d vs fuel).2.fuel :=
 (zGe (zKk fuel) (zEn (zKk fuel) 1 _) d vs _ ⟨h,jAf _⟩:Fu fuel (zEs p d vs fuel).2).1
theorem RP.congr {f:FuncId}{args:List A}{p:Prg}{F:Int}{s s':XS}{r r':A}(h:RP f args p F s r s')(hr:s'.fail=0→r=r'):RP f args p F s r' s' :=
 ⟨fun hf=>by rw[←hr hf]; exact h.ret hf,h.pan⟩
section
variable {p:Prg}{F m:Int}{ev:Evl}{B:List Bnd}{e:Exp}{t:Typ}{V:List EVar}{s:XS}
def zTL:K:=G [kO 4 1,kZ 6 [ki,ki,kl]] (Z (Z (K.dops [(0,0,M 8 0),(1,0,kU 9 8),(2,0,D 10 9 3),(3,0,L 11 10 1),(4,0,M 12 0),(5,0,kU 13 12),(6,0,D 14 13 2),(7,0,L 15 14 1),(8,0,kB 16 11 15 .geq)]) (Y 16 (K.ops [⟨none,.mki (some 17) 51 (kc 18)⟩,⟨none,.pan none (kt 17)⟩]) ks)) (G [M 18 0,kU 19 18,D 20 19 3,L 21 20 1,kBi 22 21 1 .add,kU 23 18,D 24 23 3,S 24 22 1] (G [M 25 0,J 26 4 15,M 27 2,kC 28 150 [(kt 25),(kt 26),(kt 27)],kZ 7 [ki,ki,kl],S 7 28 3] (Z (G [J 29 7 3,kC 30 151 [(kt 29)],kBi 31 30 256 .gtr,M 32 31,T 32 false (J 33 7 3),T 32 false (kC 34 152 [(kt 33)]),T 32 false (kBi 35 34 24 .gtr),kPt 36 32 35] (Y 36 (K.ops [⟨none,.mki (some 37) 51 (kc 4)⟩,⟨none,.pan none (kt 37)⟩]) ks)) (G [J 38 7 3,S 6 38 3] kr)))))
theorem zW8:zR Tryz.prog Tryz.f110.ntmps (Tryz.f110.body.getD .skip)=some zTL.erase:=by kernel_rfl
@[simp] theorem qM2:zA Tryz.prog 110=true:=by kernel_rfl
theorem zLF (hu:s.fuel≤0):zLh p F e V s (vz,{s with fail:=zF5}):=by
 have hP:=eP p;refine⟨fun hf=>absurd (show zF5=0 from hf) (by decide),fun _=>?_⟩;have hc:F≤F-s.fuel:=by omega
 refine zEp Tryz.func110 rfl zW8 (rs:=[.cell 6 3 true]) (by kernel_rfl) ?_;unfold zTL wpF;simp[eS,hP,zT,hc]
theorem zUH {r:Val×XS}(hF:F≤1000000)(hs:s.fail=0)(hu:¬s.fuel≤0)(hB:Fu F s)(hv:VaE p F e V (zDK e s) r):zLh p F e V s (zOn 1 r):=by
 have hP:=eP p;obtain⟨b1,b2⟩:=hB;have hc:¬F≤F-s.fuel:=by omega
 have hw:IntKind.i64.wrap (F-s.fuel+1)=F-(s.fuel-1):=by rw[IntWalk.i64_in _ (by omega)]; omega
 have he:zOn 1 r=(r.1,zCX r):=by simp[zOn,zf]
 have ht:(zDK e s).fuel=s.fuel-1:=rfl;rw[he];by_cases h0:r.2.fail=0
 ·have hv:=hv.ret h0;by_cases hbig:zJv r.1
  ·have hl:zCX r={r.2 with fail:=zMP}:=by unfold zCX; rw[if_pos ⟨h0,hbig⟩]
   rw[hl];refine⟨fun hf=>absurd (show zMP=0 from hf) (by decide),fun _=>?_⟩;refine zEp Tryz.func110 rfl zW8 (rs:=[.cell 6 3 true]) (by kernel_rfl) ?_;unfold zTL wpF;simp[eS,hP,zT,hc,hw];refine jJ hv [0] (by decide) (by simp[eS,hP,ht]) (by simp[zT]) ?_;simp[eS,hP,zF];refine qD (zN1 r.1) (by simp[zF]) (by simp) ?_;by_cases h1:256<zFZ r.1
   ·simp[h1]
   ·have h2:24<zDo r.1:=hbig.resolve_left h1;simp[h1];refine qD (zIw r.1) (by simp[zF]) (by simp) ?_;simp[h2]
  ·have hl:zCX r=r.2:=by unfold zCX; rw[if_neg fun h=>hbig h.2]
   have h1:¬256<zFZ r.1:=fun h=>hbig (.inl h)
   have h2:¬24<zDo r.1:=fun h=>hbig (.inr h)
   rw[hl];refine⟨fun _=>?_,fun hf=>(hf h0).elim⟩;refine zI Tryz.func110 rfl zW8 (rs:=[.cell 6 3 true]) (by kernel_rfl) ?_;unfold zTL;simp[eS,hP,zT,hc,hw];refine jJ hv [0] (by decide) (by simp[eS,hP,ht]) (by simp[zT]) ?_;simp[eS,hP,zF];refine qD (zN1 r.1) (by simp[zF]) (by simp) ?_;simp[h1];refine qD (zIw r.1) (by simp[zF]) (by simp) ?_;simp[h2];exact zH [0] 0 (by decide) (by simp) (by simp) (by simp[zF])
 ·have hl:zCX r=r.2:=by unfold zCX; rw[if_neg fun h=>h0 h.1]
  rw[hl];refine⟨fun hf=>(h0 hf).elim,fun _=>?_⟩;refine zEp Tryz.func110 rfl zW8 (rs:=[.cell 6 3 true]) (by kernel_rfl) ?_;unfold zTL wpF;simp[eS,hP,zT,hc,hw];refine zHx (hv.pan h0) [0] (by decide) (by simp[eS,hP,ht]) (by simp[zT]) fun τ=>?_
  simp
theorem zJZ (h:IhE p F m ev){a:Exp}{ks:List Exp}{u:Typ}(hk:e.k=5∨e.k=6∨e.k=8∨e.k=10∨e.k=12)(hks:e.kids=a::ks)(ha:WE p B a u)(hV:EnvT p B V)(hN:NdV V)(hs:s.fail=0)(hB:Fu m s)
 (hb:∀v s1,s1.fail=0→Fu m s1→TyV p u v∧qC v≤256→BrE p F e V v s1 (zAD ev e V v s1)):VaE p F e V s (zAt ev e V s):=by
 have hh:e.kids.headD .zero=a:=by rw[hks]; rfl
 refine qAM hk hks (h.ok a V s hs (.of ha hV hN) hB) (fun h1=>?_) fun h1=>?_
 ·rw[zSr (by rw[hh]; exact h1),hh];exact hb _ _ h1 (h.fu a V s hB) (h.snd a B V s u ha hV h1)
 ·unfold zAt;rw[hh,if_pos h1]
theorem zS9 (hp:zTJ p)(hsl:zZR p)(h:IhE p F m ev)(he:WE p B e t)(hV:EnvT p B V)(hN:NdV V)(hs:s.fail=0)(hB:Fu m s):VaE p F e V s (qW p 1 ev e V s):=by
 cases he with
 | int _ i n r u ns h1 h2=>exact zWU hs rfl
 | bool _ i n r u ns h1=>exact zUM hs rfl h1
 | var _ i n r u ns _ hl=>exact zWW hs rfl
 | call _ i n r u ks ns hn d hd hk hl hw =>
  have e1:qW p 1 ev (.mk i 3 n r u ks ns) V s=zB1 ev d (jE ev V ks s).1 (jE ev V ks s).2:=by simp[qW,dfn,hd]
  rw[e1];have hdm:=(zAz hd).1;have hal:=zH4 h V ks hn hs (fun k hk s=>by obtain⟨j,hj,rfl⟩:=jB4 hk; exact .of (hw j hj) hV hN) hB;have hll:=zCh ev V ks s;refine zUN (e:=.mk i 3 n r u ks ns) (vs:=(jE ev V ks s).1) (s1:=(jE ev V ks s).2) rfl hd hll hal (fun hf=>?_) fun hf=>?_
  ·obtain⟨ht,hz⟩:=zE0 h.stop h.snd hV ks _ s hl hw hf;have hlen:=ht.len;rw[jB5]at hlen;exact zOk h d _ hlen (hsl d hdm).1 hf (fun _=>⟨_,_,hp r d hd (by simp[zGL,hk]),EnvT.args ht hz,zR5 (hsl d hdm).2 _ hlen⟩) (zFr h.fu V ks s hB)
  ·unfold zB1;rw[if_pos hf]
 | op _ i n r u ks ns hn ts _ ho hl hw =>
  have e1:qW p 1 ev (.mk i 4 n r u ks ns) V s=(zf true (jE ev V ks s).2 (opV n (jE ev V ks s).1),(jE ev V ks s).2):=by simp[qW]
  rw[e1];have hal:=zH4 h V ks hn hs (fun k hk s=>by obtain⟨j,hj,rfl⟩:=jB4 hk; exact .of (hw j hj) hV hN) hB;refine RP.congr (qAN (e:=.mk i 4 n r u ks ns) (ts:=ts) (t:=t) (vs:=(jE ev V ks s).1) rfl (fun hf=>?_) (zCh ev V ks s) hal) fun hf=>by rw[zFj hf]; rfl
  obtain⟨ht,hz⟩:=zE0 h.stop h.snd hV ks _ s hl hw hf;exact⟨ho,ht,hz⟩
 | record _ i n r u ks ns hn d hd hk hl hw =>
  have e1:qW p 1 ev (.mk i 7 n r u ks ns) V s=(zf true (jE ev V ks s).2 (.mk 2 0 (jE ev V ks s).1),(jE ev V ks s).2):=by simp[qW]
  rw[e1];have hal:=zH4 h V ks hn hs (fun k hk s=>by obtain⟨j,hj,rfl⟩:=jB4 hk; exact .of (hw j hj) hV hN) hB;exact RP.congr (zWV (e:=.mk i 7 n r u ks ns) rfl (zCh ev V ks s) hal) fun hf=>by rw[zFj hf]
 | case _ i r u a ns d j hd hk hj ha =>
  have e1:qW p 1 ev (.mk i 9 j r u [a] ns) V s=(zf true (jE ev V [a] s).2 (.mk 3 j (jE ev V [a] s).1),(jE ev V [a] s).2):=by simp[qW]
  rw[e1];have hal:=zH4 h V [a] (by simp) hs (fun k hk s=>by rw[jAn.1 hk]; exact .of ha hV hN) hB;exact RP.congr (zUO (e:=.mk i 9 j r u [a] ns) rfl (zCh ev V [a] s) hal) fun hf=>by rw[zFj hf]; rfl
 | list _ i n r u ks ns t hn hw =>
  have e1:qW p 1 ev (.mk i 11 n r u ks ns) V s=(zf true (jE ev V ks s).2 (.mk 4 0 (jE ev V ks s).1),(jE ev V ks s).2):=by simp[qW]
  rw[e1];have hal:=zH4 h V ks hn hs (fun k hk s=>by obtain⟨j,hj,rfl⟩:=jB4 hk; exact .of (hw j hj) hV hN) hB;exact RP.congr (zUP (e:=.mk i 11 n r u ks ns) rfl (zCh ev V ks s) hal) fun hf=>by rw[zFj hf]
 | ite _ i n r u a b c ns _ ha hb hc =>
  have e1:qW p 1 ev (.mk i 5 n r u [a,b,c] ns) V s=zAt ev (.mk i 5 n r u [a,b,c] ns) V s:=by simp[qW]
  rw[e1];refine zJZ h (.inl rfl) rfl ha hV hN hs hB fun v s1 h1 hB1 hty=>?_
  obtain⟨x,rfl,hx⟩:=hty.1.bool_inv;exact zWL hx rfl rfl (h.ok b V s1 h1 (.of hb hV hN) hB1) (h.ok c V s1 h1 (.of hc hV hN) hB1)
 | lets _ i n r u a b ns v _ hfr ha hb =>
  have e1:qW p 1 ev (.mk i 6 n r u [a,b] ns) V s=zAt ev (.mk i 6 n r u [a,b] ns) V s:=by simp[qW]
  rw[e1];refine zJZ h (.inr (.inl rfl)) rfl ha hV hN hs hB fun v s1 h1 hB1 hty=>?_
  exact zWM rfl rfl (h.ok b _ s1 h1 (.of hb (hV.push hty) (hN.push (.of (hV.ids hfr) 0))) hB1)
 | field _ i r u a ns d j hd hk hj ha =>
  have e1:qW p 1 ev (.mk i 8 j r u [a] ns) V s=zAt ev (.mk i 8 j r u [a] ns) V s:=by simp[qW]
  rw[e1];refine zJZ h (.inr (.inr (.inl rfl))) rfl ha hV hN hs hB fun v s1 h1 hB1 hty=>?_
  obtain⟨_,vs,hl,rfl,_⟩:=(hty.1.def_inv hd).resolve_right (fun h=>by omega);exact zS2 rfl rfl h1 (by omega) rfl
 | mtch _ i n r u a ks ns d _ hfr hd hk hl ha hw =>
  have e1:qW p 1 ev (.mk i 10 n r u (a::ks) ns) V s=zAt ev (.mk i 10 n r u (a::ks) ns) V s:=by simp[qW]
  rw[e1];refine zJZ h (.inr (.inr (.inr (.inl rfl)))) rfl ha hV hN hs hB fun v s1 h1 hB1 hty=>?_
  obtain⟨_,q,x,hm,rfl,hxt⟩:=(hty.1.def_inv hd).resolve_left (fun h=>by omega);have hq:q<ks.length:=by omega
  exact zS3 rfl rfl hq (by have:=(hsl d (zAz hd).1).1; omega) (h.ok ks[q] _ s1 h1 (.of (hw q hq) (hV.push ⟨hxt,zEl hty.2 (by simp[zV])⟩) (hN.push (.of (hV.ids hfr) q))) hB1)
 | fold _ i n r u l z b ns v _ hfr hl' hs' hb =>
  have e1:qW p 1 ev (.mk i 12 n r u [l,z,b] ns) V s=zAt ev (.mk i 12 n r u [l,z,b] ns) V s:=by simp[qW]
  rw[e1];refine zJZ h (.inr (.inr (.inr (.inr rfl)))) rfl hl' hV hN hs hB fun v s1 h1 hB1 hty=>?_
  obtain⟨vs,rfl,hvs⟩:=hty.1.list_inv;have hfv:=hV.ids hfr;have ht2:=h.snd z B V s1 _ hs' hV;refine zU5 h.stop rfl rfl (h.ok z V s1 h1 (.of hs' hV hN) hB1) fun x a s2 h2 ⟨j,hj,hx⟩=>?_
  have hxm:=jC2 hx;have hty2:=zKj h.stop h.snd hV hb (vs.take j) (ev z V s1) (fun x hx=>⟨hvs x (jCb hx),zEl hty.2 (jCb hx)⟩) ht2;have hfu:=zGm h.fu V i b (vs.take j) (ev z V s1) (h.fu z V s1 hB1);rw[show (Exp.mk i 12 n r u [l,z,b] ns).id=i from rfl]at hj;rw[hj]at hty2 hfu;exact h.ok b _ s2 h2 (.of hb ((hV.push ⟨hvs x hxm,zEl hty.2 hxm⟩).push (hty2 h2)) ((hN.push (.of hfv 0)).push (.push hfv (by decide) _))) hfu
theorem zR6 (hp:zTJ p)(hsl:zZR p)(hF:F≤1000000):∀n:Nat,(n:Int)≤F→IhE p F n (zAv p 1 n)
 | 0,_=>⟨zDu p 1 0,zHO hp 1 0,zEn (zKk _) 1 0,fun e V s hs hA hB=>by rw[zAv,if_neg (by simp[hs])];exact zLF hB.2⟩
 | n+1,hn=>⟨zDu p 1 (n+1),zHO hp 1 (n+1),zEn (zKk _) 1 (n+1),fun e V s hs hA hB=>by
  rw[zAv,if_neg (by simp[hs])];split
  ·rename_i hu; exact zLF hu
  ·rename_i hu;obtain⟨B,t,he,hV,hN⟩:=hA hs;obtain⟨b1,b2⟩:=hB;exact zUH hF hs hu ⟨b1,by omega⟩ (zS9 hp hsl (zR6 hp hsl hF n (by omega)) he hV hN (by exact hs) ⟨by show 0≤s.fuel-1; omega,by show s.fuel-1≤_; omega⟩)⟩
end
section
variable {p:Prg}{F:Int}{c:Nat}{m:Int}{ev:Evl}{e:Exp}{V:List EVar}{s:XS}
@[simp] theorem qNr:zA Tryz.prog 171=true:=by kernel_rfl
end
end Go.Proofs.YtdnelmeboihpkaaGreatDoor
namespace Go.Proofs.YtdnelmeboihpkaaGreatDoor
open Go Go.Abs
theorem zS5 (pv ps pe:Value)(w:World) :
 CallsDIn Fence.wide 0 Tryz.prog 107 #[pv,ps,pe] .returning w fun e u' w'=>e=.returned (.tuple #[])∧u'=.returning∧w'=w:=by
 refine callsDIn_of_wpSIn Tryz.func107 rfl trivial fun c₀ cs hu=>?_
 apply wpSIn_seq;apply wpSIn_region;simp[wpOpsSIn,go_sem,recoverD,hu,Tryz.ntmps107,Exit.thenS];apply wpSIn_seq;apply wpSIn_region;simp[wpOpsSIn,go_sem,Exit.thenS];refine wpSIn_cond (t:=false) (by simp[Act.eval,Array.replicate]) ?_;simp only[jAg,if_false];refine wpSIn_of_wpIn rfl (wpIn_skip ?_);cases c₀;simp_all [bodyPostS,results,Tryz.results107]
theorem zXJ (k:Int)(w:World):(Instr.typeAssert (zOo k) 20 51 true).run Tryz.prog w=.ok (.tuple #[.int .i64 k,.bool true]) w:=by
 have hu:Tryz.prog.underlying 51=some (.int .i64):=by kernel_rfl
 simp[Instr.typeAssert,run_underlying hu]
def qEE:List KG:=[⟨none,.build (some 17) [(.int .i64 0),(.int .i64 0),(.slice none 0 0)] []⟩,⟨none,.mov (some 18) (.tmp 4)⟩,⟨none,.st none (.tmp 0) (.tmp 17) 3⟩,⟨none,.st none (.tmp 1) (.const (.int .i64 0)) 1⟩,⟨none,.st none (.tmp 2) (.tmp 18) 1⟩]
theorem zOm {H:Mem}{L:List LI} {σ : St}{w:World}{vs:List Value}{q0 q1 q2:Nat}{k:Int}{older:List PanicEntry}(hs:RelSt H L σ w)(hv:zQ H L [.ptr q0 0,.ptr q1 0,.ptr q2 0] vs)
 {x0 y0 z0 x1 x2:A}(b0 : σ[q0]?=some (.box [x0,y0,z0]))(b1 : σ[q1]?=some (.box [x1]))(b2 : σ[q2]?=some (.box [x2]))(n1:q0≠q1)(n2:q0≠q2)(n3:q1≠q2) :
 CallsDIn Fence.wide 0 Tryz.prog 107 vs.toArray (.panicking ({v:=zOo k,recovered:=false}::older)) w fun e u' w'=>e=.returned (.tuple #[])∧u'=.panicking ({v:=zOo k,recovered:=true}::older) ∧
  ∃H' L',Nxt H L w H' L' (((σ.set q0 (.box [int 0,int 0,.nil])).set q1 (.box [int 0])).set q2 (.box [int k])) w':=by
 obtain⟨pv,vs',rfl,h0,hv⟩:=zS hv;obtain⟨ps,vs',rfl,h1,hv⟩:=zS hv;obtain⟨pe,vs',rfl,h2,hv⟩:=zS hv;rw[qY hv];refine callsDIn_of_wpSIn Tryz.func107 rfl trivial fun c₀ cs hu=>?_
 apply wpSIn_seq;apply wpSIn_region;simp[wpOpsSIn,go_sem,recoverD,hu,Tryz.ntmps107,Exit.thenS];apply wpSIn_seq;apply wpSIn_region;simp[wpOpsSIn,go_sem,Exit.thenS];refine wpSIn_cond (t:=true) (by simp[Act.eval,Array.replicate]) ?_;simp only[if_true];apply wpSIn_seq;apply wpSIn_region;simp[wpOpsSIn,go_sem,Exit.thenS,zXJ];apply wpSIn_seq;apply wpSIn_seq;apply wpSIn_region;simp[wpOpsSIn,go_sem,Exit.thenS];refine wpSIn_cond (t:=false) (by simp[Act.eval,Array.replicate]) ?_;simp only[jAg,if_false];refine wpSIn_of_wpIn rfl (wpIn_skip ?_);simp only[Exit.thenS];refine wpSIn_of_wpIn rfl ?_;refine zKL (n0:=L.length) (hint:=zQK) (l:=qEE) (by kernel_rfl) (Q:=fun x env τ=>x=.norm∧τ = ((σ.set q0 (.box [int 0,int 0,.nil])).set q1 (.box [int 0])).set q2 (.box [int k])) (N:=19) (env:=qU [(0,.ptr q0 0),(1,.ptr q1 0),(2,.ptr q2 0),(4,int k)]) ?_ hs ?_ fun e a' w' hp=>?_
 ·refine⟨by simp,fun t=>?_⟩;rcases zDi [(0,.ptr q0 0),(1,.ptr q1 0),(2,.ptr q2 0),(4,int k)] t with h | h
  ·rw[h]; simp[Rel]
  ·generalize qU [(0,.ptr q0 0),(1,.ptr q1 0),(2,.ptr q2 0),(4,int k)] t=a at h;simp only[jA7,jB8,jCz,or_false]at h;rcases h with ⟨rfl,rfl⟩ | ⟨rfl,rfl⟩ | ⟨rfl,rfl⟩ | ⟨rfl,rfl⟩
   ·simpa using h0
   ·simpa using h1
   ·simpa using h2
   ·simp[Rel,Array.getElem?_append]
 ·unfold qEE;simp[b0,b1,b2,n1,n2,n3,jD8]
 ·obtain⟨x,env',τ,H',L',rfl,g2,g3,g4,rfl,rfl⟩:=hp;refine⟨g2,_,rfl,.tuple #[],?_,rfl,rfl,H'.1,H'.2,L',g4⟩;simp[results,Tryz.results107]
end Go.Proofs.YtdnelmeboihpkaaGreatDoor
namespace Go.Proofs.YtdnelmeboihpkaaGreatDoor
open Go.Abs
def Fl (s:XS):Prop:=s.fail=0∨s.fail=4∨s.fail=18
section
variable {p:Prg}{ev:Evl}
theorem zRu (h:∀e V s,Fl s→Fl (ev e V s).2)(V:List EVar):∀(l:List Exp) (s:XS),Fl s→Fl (jE ev V l s).2
 | [],s,hs=>hs
 | e::l,s,hs=>by simp only[jE]; exact zRu h V l _ (h e V s hs)
theorem zOx (h:∀e V s,Fl s→Fl (ev e V s).2)(V:List EVar)(i:Id)(b:Exp):∀(l:List Val) (r:Val×XS),Fl r.2→Fl (yJ ev V i b l r).2
 | [],r,hs=>hs
 | e::l,r,hs=>by simp only[yJ]; exact zOx h V i b l _ (h _ _ _ hs)
theorem zNR (h:∀e V s,Fl s→Fl (ev e V s).2)(d:Dfn)(vs:List Val)(s:XS)(hs:Fl s):Fl (zB1 ev d vs s).2:=by
 unfold zB1;split
 ·exact hs
 ·exact h _ _ _ hs
theorem zPP (h:∀e V s,Fl s→Fl (ev e V s).2)(e:Exp)(V:List EVar)(s:XS)(hs:Fl s):Fl (zAt ev e V s).2:=by
 unfold zAt;have h0:=h (e.kids.headD .zero) V s hs;generalize ev (e.kids.headD .zero) V s=r at *
 repeat' split
 all_goals first
  | exact h0
  | exact h _ _ _ h0
  | exact zOx h _ _ _ _ _ (h _ _ _ h0)
theorem zTF (h:∀e V s,Fl s→Fl (ev e V s).2)(fl:Nat)(e:Exp)(V:List EVar)(s:XS)(hs:Fl s):Fl (qW p fl ev e V s).2:=by
 unfold qW;have h0:=zRu h V e.kids s hs;generalize jE ev V e.kids s=r at *
 repeat' split
 all_goals first
  | exact hs
  | exact h0
  | exact zPP h _ _ _ hs
  | exact zNR h _ _ _ h0
theorem zXs {r:Val×XS}(h:Fl r.2):Fl (zCX r):=by
 unfold zCX;split
 ·exact .inr (.inl rfl)
 ·exact h
theorem zPb (fl:Nat):∀(n:Nat) e V s,Fl s→Fl (zAv p fl n e V s).2
 | 0,e,V,s,hs=>by
  rw[zAv];split
  ·exact hs
  ·exact .inr (.inr rfl)
 | n+1,e,V,s,hs=>by
  rw[zAv];split
  ·exact hs
  ·split
   ·exact .inr (.inr rfl)
   ·exact zXs (zTF (zPb fl n) fl e V _ hs)
end
def zFo (p:Prg)(d:Dfn)(vs:List Val)(fuel:Int):Val×XS:=zB1 (zAv p 2 fuel.toNat) d vs ⟨fuel,0,[],[]⟩
def yU (p:Prg)(id:Id)(vs:List Val)(fuel:Int):Val×Int×Int:=match qT p.defs id with
 | none=>(vz,0,6)
 | some d=>if zPO d.kind=false then (vz,0,6) else if vs.length≠d.slots.length then (vz,0,1)
  else if zBT p (d.slots.map Slt.typ) vs=false then (vz,0,1) else if (zFo p d vs fuel).2.fail≠0 then (vz,0,(zFo p d vs fuel).2.fail) else ((zFo p d vs fuel).1,fuel-(zFo p d vs fuel).2.fuel,0)
def zED (r:Val×Int×Int):A:=.tup [.agg (zF r.1),int r.2.1,int r.2.2]
@[simp] theorem qNq:zA Tryz.prog 92=true:=by kernel_rfl
end Go.Proofs.YtdnelmeboihpkaaGreatDoor
