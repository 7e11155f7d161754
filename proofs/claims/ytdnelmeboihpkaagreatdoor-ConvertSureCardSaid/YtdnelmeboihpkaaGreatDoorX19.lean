/-
  convert.paths and Paths.
  spliceryref17's lists of IDs; the reference's Converters.
  convert.Field: what an expression reads of a slot.
  The second generator's maker, walked: its small functions, its parts.
  domain.tuples: lists of values, one by one.
  The reference's Paths.
-/
import Derived.Test.YtdnelmeboihpkaaGreatDoorX18
import Derived.Test.YtdnelmeboihpkaaGreatDoorX15
import Derived.Test.YtdnelmeboihpkaaGreatDoorX16
import Derived.Test.YtdnelmeboihpkaaGreatDoorX14
set_option linter.unusedVariables false
set_option maxHeartbeats 8000000
set_option maxRecDepth 100000
set_option linter.unusedSimpArgs false
open Go.Proofs.Tryz (prog)
namespace Go.Proofs.YtdnelmeboihpkaaGreatDoor
open Go.Abs
def jL (l:List (List Id)):List A:=l.map fun q=>.sl q.length (zQ q)
@[simp] theorem qAc (l:List (List Id)):(jL l).length=l.length:=by simp[jL]
@[simp] theorem qAd:jL []=[]:=rfl
theorem zKj (a b:List (List Id)):jL (a++b)=jL a++jL b:=by simp[jL]
theorem zCs (q:List Id)(l:List (List Id)):jL (q::l)=.sl q.length (zQ q)::jL l:=rfl
theorem zEi:∀(l:List (List Id)),qE (jL l)
 | []=>qE.nil
 | q::l=>qE.sl (zBn q) (zEi l)
@[simp] theorem zY9 (l:List (List Id)):qU (jL l)=jL l:=(zEi l).1
@[simp] theorem qDz {rf g}(l:List (List Id)):vwL rf g (jL l)=jL l:=(zEi l).2 _ _
@[simp] theorem zO0:∀(l:List (List Id)) (k:Nat),zAZ k (jL l)=true
 | [],_=>rfl
 | q::l,k=>by rw[zCs]; simp[zO0 l k]
theorem zBR {l:List (List Id)}{i:Nat}(h:i<l.length):(jL l).drop i=.sl l[i].length (zQ l[i])::jL (l.drop (i+1)):=by rw[jL,←List.map_drop,jAy h]; rfl
@[simp] theorem qBp (l:List Md)(k:Nat):zAZ k (jI l)=true:=(zEM l).bnd k
@[simp] theorem qBo (l:List Dfn)(k:Nat):zAZ k (qM l)=true:=(zEH l).bnd k
@[simp] theorem qGC (d:Id)(k:Nat):zAZ k (zF d)=true:=by simp[zF]
def zZx:K:=G [kO 3 0,kO 4 1,kO 5 2,⟨none,.mov (some 6) (.const .nilFunc)⟩] (G [⟨none,.clo (some 7) 97 [] [(kt 3),(kt 4),(kt 5)]⟩,M 6 7] kr)
theorem qGR:zO prog Tryz.f53.ntmps (Tryz.f53.body.getD .skip)=some zZx.erase:=by kernel_rfl
@[simp] theorem qK2:zA prog 53=true:=by kernel_rfl
theorem zTq (p:Prg)(fro to:Id):Ret prog 53 [.agg (zM p),.agg (zF fro),.agg (zF to)] [] (.clo 97 [] [.rptr (zM p),.rptr (zF fro),.rptr (zF to)]) []:=by refine zK Tryz.func53 rfl qGR (rs:=[.slot 6]) (by kernel_rfl) ?_;unfold zZx;simp -implicitDefEqProofs [zM,zF];exact zB 1 (by simp)
def zZw:K:=G [kO 4 0] (G [J 9 1 2,kC 10 98 [(kt 9)],kZ 5 [kl],S 5 10 1] (G [⟨none,.mop (some 11) (.mk 3) []⟩,J 12 2 3,⟨none,.mop none (.set 3) [(kt 11),(kt 12),(.const (.bool true))]⟩,M 13 11,kZ 6 [(.map none)],S 6 13 1] (G [kZ 7 [kl]] (G [kZ 8 [.nilFunc]] (G [⟨none,.clo (some 14) 99 [] [(kt 3),(kt 4),(kt 7),(kt 5),(kt 6),(kt 8)]⟩,S 8 14 1] (K.wk (K.ops [L 15 8 1,J 16 2 3,⟨none,.call (some 17) (kt 15) [(kt 16)]⟩])))))))
theorem qGQ:zO prog Tryz.f97.ntmps (Tryz.f97.body.getD .skip)=some zZw.erase:=by kernel_rfl
@[simp] theorem zX9:zA prog 97=true:=by kernel_rfl
@[simp] theorem qKJ:zA prog 99=true:=zXA
def zAd (p:Prg)(fro to:Id):List (List Id):=zAy (zAa p) to (zAa p).length fro [fro]
theorem zQH {p:Prg}{hs:List Hd}(hf:Fit p hs):(zAa p).length≤100:=by
 have h1:(zAa p).length=(zCv p).length:=by rw[←zEa hf]; exact(zCi _).length_eq
 have h2:=jDb jS p.defs;have h3:=hf.len8;unfold zCv at h1;omega
theorem zR1 {p:Prg}{hs:List Hd}(hf:Fit p hs)(fro to:Id):zSb prog 97 [] [.rptr (zM p),.rptr (zF fro),.rptr (zF to)] ((zAd p fro to).map fun q=>[.sl q.length (zQ q)]):=by
 refine zFV fun b m T hT hY=>?_
 have h0:=hT 0 (jAv _);have hn:=hT _ (jA _);have hP:=eP p;have hL:=zQH hf;have hm1:putI [fro.a,fro.b,fro.c] (.lit (.bool true)) []=mrk [fro]:=rfl;have hvis:=zUr (L:=zAa p) (by omega) to b m T _ hT hY (zAa p).length fro [fro] [] true 0 (zPa _) (by simp; omega) (by simp[zAd]) (fun q hq hqx=>by simp[zAd]);refine zK Tryz.func97 rfl qGQ (rs:=[]) (by kernel_rfl) ?_;unfold zZw;simp -implicitDefEqProofs [h0.1,zAe h0.1,hP];refine qK (zV7 hf) (by simp[hP]) (by simp) ?_;simp -implicitDefEqProofs [h0.1,yV h0.1,zAe h0.1,zAB h0.1,zIk h0.1,zF,hm1,jBi];have hw:=zBj (n0:=m) (env:=qC [(2,.rptr (zF fro)),(8,.ptr (m+5) 0)]) (l:=m+4) (o:=0) (σ:=T 0++[AObj.box [yv b],.box [.sl (zAa p).length (yE (zAa p))],.mp true 3 (mrk [fro]),.box [.map (m+2)],.box [.nil],
  .box [.clo 99 [] [.rptr (zF to),.ptr m 0,.ptr (m+4) 0,.ptr (m+1) 0,.ptr (m+3) 0,.ptr (m+5) 0]]]) (by rw[yV h0.1]; rfl) rfl 31 3
 rw[zAB h0.1,jB1,jA7,h0.1]at hw;refine⟨_,_,(zNa (c:=0) h0 rfl [0,1,2,3,4,5] 0 (by simp) (by decide) (by simp[zF]) (by simp[zF])).trans hw,?_⟩;simp -implicitDefEqProofs [h0.1,yV h0.1,zAe h0.1];rw[jAr]at hvis;have hn':Cl m (T (zAy (zAa p) to (zAa p).length fro [fro]).length):=by simpa [zAd] using hn
 refine zVm h0 hn' hvis [0,1,2,3,4,5,6] (by decide) (by simp[zLO,zDn,zF]) (by simp[zJU,zF]) ?_;simp -implicitDefEqProofs;exact zNV hn' (by simp)
def qFM:K:=G [kO 3 0,kO 4 1,kO 5 2,kZ 6 [kl],kZ 7 [ki]] (Z (G [J 10 3 2,J 11 4 3,kC 12 52 [(kt 10),(kt 11)],kR 13 12,M 14 13,T 14 false (J 15 3 2),T 14 false (J 16 5 3),T 14 false (kC 17 52 [(kt 15),(kt 16)]),T 14 false (kR 18 17),kPt 19 14 18] (Y 19 (G [⟨none,.st none (kt 6) (.const kl) 1⟩,⟨none,.st none (kt 7) (kc 6) 1⟩] kr) ks)) (G [kZ 8 [kl]] (Z (G [J 20 3 2,J 21 4 3,J 22 5 3,kC 23 53 [(kt 20),(kt 21),(kt 22)]] (K.block 0 (K.rng (kt 23) [24] (K.ops [M 9 24]) (K.block 1 (Z (G [L 25 8 1,kN 26 25,kQi 27 26 64 false] (Y 27 (G [⟨none,.st none (kt 6) (.const kl) 1⟩,⟨none,.st none (kt 7) (kc 4) 1⟩] kr) ks)) (K.ops [L 28 8 1,M 29 9,kd 30 28 1 1 [kl] [(0,1,(kt 29))],kP 31 28 1 24 28 30,S 8 31 1])))))) (G [L 32 8 1,S 6 32 1,⟨none,.st none (kt 7) (kc 0) 1⟩] kr))))
theorem qMM:zO prog Tryz.f20.ntmps (Tryz.f20.body.getD .skip)=some qFM.erase:=by kernel_rfl
@[simp] theorem qNr:zA prog 20=true:=by kernel_rfl
def zCW (p:Prg)(fro to:Id):A:=if zBa p fro=true∧zBa p to=true then .tup [.sl (zAd p fro to).length (jL (zAd p fro to)),int 0] else .tup [.sl 0 [],int 6]
theorem zHz {p:Prg}{hs:List Hd}(hf:Fit p hs)(fro to:Id)(h64:(zAd p fro to).length≤64):Ret prog 20 [.agg (zM p),.agg (zF fro),.agg (zF to)] [] (zCW p fro to) []:=by
 have hP:=eP p;refine zK Tryz.func20 rfl qMM (rs:=[.cell 6 1 false,.cell 7 1 false]) (by kernel_rfl) ?_;unfold qFM;simp -implicitDefEqProofs [hP,zF];refine qK (zNc p fro) (by simp[hP,zF]) (by simp) ?_;by_cases h1:zBa p fro=true
 ·simp -implicitDefEqProofs [h1];refine qK (zNc p to) (by simp[hP,zF]) (by simp) ?_;by_cases h2:zBa p to=true
  ·simp -implicitDefEqProofs [h2];refine qK (zTq p fro to) (by simp[hP,zF]) (by simp[hP,zF]) ?_;simp -implicitDefEqProofs;refine⟨[(6,.ptr 3 0),(7,.ptr 4 0),(8,.ptr 5 0),(23,.clo 97 [] [.rptr (zM p),.rptr (zF fro),.rptr (zF to)])],7,(zAd p fro to).map (fun q=>[.sl q.length (zQ q)]),
    fun j=>[.box (zM p),.box (zF fro),.box (zF to),.box [.sl 0 []],.box [int 0],.box [.row 6 j],.row false 28 1 j (jL ((zAd p fro to).take j))],97,[],[.rptr (zM p),.rptr (zF fro),.rptr (zF to)],by simp[hP,zF],zX9,zR1 hf fro to,?_,by omega,?_,by simp[hP,zF],by simp,?_,?_⟩
   ·exact(zBj (l:=5) (o:=0) rfl rfl 28 1).trans (zP [0,1,2,3,4,5,6] 0 (by decide) (by decide) (by simp[hP,zF]) (by simp[hP,zF]))
   ·intro i hi;simp[hP,zF]
   ·intro i hi b' M r r';simp only[jB4]at hi;have htk:(zAd p fro to).take (i+1)=(zAd p fro to).take i++[(zAd p fro to)[i]]:=jAh hi;have hne:¬((i:Int)=64):=by omega
    simp -implicitDefEqProofs [hne];exact⟨⟨by simp[maxLen]; omega,by omega⟩,Wk.here (by rw[htk,zKj]; rfl)⟩
   ·have htk:(zAd p fro to).take (zAd p fro to).length=zAd p fro to:=jBa;simp -implicitDefEqProofs [htk];exact zB 1 (by simp[zCW,h1,h2])
  ·have h2':zBa p to=false:=by simpa using h2
   simp -implicitDefEqProofs [h2'];exact zB 0 (by simp[zCW,h2'])
 ·have h1':zBa p fro=false:=by simpa using h1
  simp -implicitDefEqProofs [h1'];exact zB 0 (by simp[zCW,h1'])
@[simp] theorem qDS:zA prog 124=true:=by kernel_rfl
@[simp] theorem qH0:zA prog 33=true:=by kernel_rfl
def zSc:K:=G [kMb 4 false] (Z (G [M 6 0,kN 7 6,M 8 1,kN 9 8,kQ 10 7 9 true] (Y 10 (G [kMb 4 false] kr) ks)) (Z (G [kMi 5 0] (K.block 0 (K.loop (Z (G [M 11 5,M 12 0,kN 13 12,kB 14 11 13 .lss] (Y 14 ks (K.exit 0))) (Z (K.block 1 (Z (K.dops [(0,0,M 17 0),(1,0,M 18 5),(2,0,kX 19 17 18 3),(3,0,J 20 19 3),(4,0,M 21 1),(5,0,M 22 5),(6,0,kX 23 21 22 3),(7,0,J 24 23 3),(8,0,⟨none,.eqs (some 25) true [.i,.i,.i] (kt 20) (kt 24)⟩)]) (Y 25 (G [kMb 4 false] kr) ks))) (K.ops [M 15 5,kBi 16 15 1 .add,M 5 16])))))) (G [kMb 4 true] kr)))
theorem zX8:zO prog Tryz.f31.ntmps (Tryz.f31.body.getD .skip)=some zSc.erase:=by kernel_rfl
@[simp] theorem qDT:zA prog 31=true:=by kernel_rfl
@[simp] theorem qH1:zA prog 82=true:=by kernel_rfl
theorem zUw (a b:List Id):Ret prog 31 [.sl a.length (zQ a),.sl b.length (zQ b)] [] (bl (decide (a=b))) []:=by
 refine zK Tryz.func31 rfl zX8 (rs:=[.slot 4]) (by kernel_rfl) ?_;unfold zSc;by_cases hab:a.length=b.length
 ·have hab':(a.length:Int)=b.length:=by omega
  simp -implicitDefEqProofs [hab];intro hlb;refine jX (S:=Nat) (fun i=>[(0,.sl a.length (zQ a)),(1,.sl b.length (zQ b)),(5,int i)]) (fun s=>[]) (fun i=>i≤a.length∧a.take i=b.take i) (fun i=>a.length-i) 0 (by simp)
   (zP [] 0 (by simp) (by simp) (by simp) (by simp[hab])) ?_
  rintro i ⟨hi,hn⟩;by_cases h:i<a.length
  ·have hb:i<b.length:=by omega
   simp -implicitDefEqProofs [h,hb,zCN h,zCN hb];intro hl;refine qT (fun h'=>?_) (fun h'=>?_)<;>simp at h'<;>simp -implicitDefEqProofs
   ·have hx:a[i]≠b[i]:=fun e=>by rw[e]at h'; simp at h'
    have hne:a≠b:=fun e=>hx (by subst e; rfl)
    exact zB 0 (by simp[hne])
   ·have hx:a[i]=b[i]:=h';refine zU (i+1) ⟨h,?_⟩ (by omega) (zP [] 0 (by simp) (by simp) (by simp) (by simp[qO h hl]));rw[jAh h,jAh hb,hn,hx]
  ·have:i=a.length:=by omega
   subst this;simp -implicitDefEqProofs;have:a=b:=by rw[jBa,hab,jBa]at hn; exact hn
   exact fun _=>zB 0 (by simp[this])
 ·have hne:a≠b:=fun e=>hab (by rw[e])
  have hab':¬(a.length:Int)=b.length:=by omega
  simp -implicitDefEqProofs [hab'];exact fun _ _=>zB 0 (by simp[hne])
@[simp] theorem qHw:zA prog 35=true:=by kernel_rfl
def zQs:K:=(G [D 29 6 13,L 30 29 1,kN 31 30,kMi 32 0] (K.block 0 (K.loop (G [kB 33 32 31 .lss] (Z (Y 33 ks (K.exit 0)) (Z (K.block 1 (G [kX 34 30 32 15,J 35 34 15,kZ 9 kz1,S 9 35 15] (Z (K.dops [(0,0,D 36 6 3),(1,0,L 37 36 1),(2,0,kQi 38 37 8 false),(3,0,M 39 38),(4,0,T 39 true (D 40 9 3)),(5,0,T 39 true (L 41 40 1)),(6,0,T 39 true (kQi 42 41 2 false)),(7,0,kPf 43 39 42),(8,0,M 44 43),(9,0,T 44 true (D 45 9 5)),(10,0,T 44 true (J 46 45 3)),(11,0,T 44 true (D 47 2 8)),(12,0,T 44 true (L 48 47 1)),(13,0,T 44 true (kXi 49 48 11 0)),(14,0,T 44 true (D 50 49 0)),(15,0,T 44 true (J 51 50 3)),(16,0,⟨some (44,true),.eqs (some 52) false [.i,.i,.i] (kt 46) (kt 51)⟩),(17,0,kPf 53 44 52),(18,0,M 10 53)]) (Z (G [M 54 10] (Y 54 (K.ops [L 55 4 1,D 56 6 4,L 57 56 1,⟨none,.mop none (.set 1) [(kt 55),(kt 57),(.const (.bool true))]⟩]) ks)) (K.ops [L 58 5 1,J 59 9 15,M 60 10,⟨none,.call (some 61) (kt 58) [(kt 59),(kt 60)]⟩]))))) (K.ops [kBi 62 32 1 .add,M 32 62])))))))
def zZ5:K:=G [kO 6 0] (Z (Z (K.dops [(0,0,D 11 6 3),(1,0,L 12 11 1),(2,0,kQi 13 12 2 false),(3,0,M 14 13),(4,0,T 14 true (D 15 6 5)),(5,0,T 14 true (J 16 15 3)),(6,0,T 14 true (D 17 2 8)),(7,0,T 14 true (L 18 17 1)),(8,0,T 14 true (kXi 19 18 11 0)),(9,0,T 14 true (D 20 19 0)),(10,0,T 14 true (J 21 20 3)),(11,0,⟨some (14,true),.eqs (some 22) false [.i,.i,.i] (kt 16) (kt 21)⟩),(12,0,kPf 23 14 22)]) (Y 23 (K.ops [L 24 3 1,M 25 24,T 25 false (M 26 1),T 25 false (kR 27 26),kPt 28 25 27,S 3 28 1]) ks)) (K.wk zQs))
theorem qHd:zO prog Tryz.f58.ntmps (Tryz.f58.body.getD .skip)=some zZ5.erase:=by kernel_rfl
@[simp] theorem qK9:zA prog 58=true:=by kernel_rfl
def mki (l:List Int):List (List Int×A):=l.map fun x=>([x],.lit (.bool true))
def adI (l:List Int)(x:Int):List Int:=if x∈l then l else l++[x]
theorem zXy {l:List Int}{x y:Int}:y∈adI l x↔y∈l∨y=x:=by
 unfold adI;split
 ·rename_i h;exact⟨.inl,fun hh=>hh.elim id fun e=>e▸h⟩
 ·simp
theorem zOo {y:Int}:∀(m l:List Int),y∈m.foldl adI l↔y∈l∨y∈m
 | [],l=>by simp
 | x::m,l=>by rw[jBz,zOo m,zXy,jA6]; exact or_assoc
theorem zSD (x:Int):∀l:List Int,Go.Abs.putI [x] (.lit (.bool true)) (mki l)=mki (adI l x)
 | []=>rfl
 | y::l=>by
  have ih:=zSD x l;simp only[mki,jA9,Go.Abs.putI]at ih ⊢;by_cases h:y=x
  ·subst h;simp[adI]
  ·have h':¬[y]=[x]:=fun e=>h (by simpa using e)
   have h2:¬x=y:=fun e=>h e.symm
   rw[if_neg h',ih];unfold adI;by_cases hx:x∈l
   ·simp[hx]
   ·simp[hx,h2]
theorem zP5 (x:Int):∀l:List Int,zB7 [x] (mki l)=if x∈l then some (.lit (.bool true)) else none
 | []=>rfl
 | y::l=>by
  have ih:=zP5 x l;simp only[mki,jA9,zB7]at ih ⊢;by_cases h:y=x
  ·subst h;simp
  ·have h':¬[y]=[x]:=fun e=>h (by simpa using e)
   have h2:¬x=y:=fun e=>h e.symm
   rw[if_neg h',ih];simp[h2]
theorem zY2 (x:Int)(l:List Int):zEV (Value.bool false) false (zB7 [x] (mki l))=.lit (.bool (decide (x∈l))):=by rw[zP5];split<;>rename_i h<;>simp[zEV,h,qN,zFh]
@[simp] theorem qOO {rf g}(l:List Int):(mki l).map (fun p=>(p.1,vw rf g p.2))=mki l:=by unfold mki;rw[jC5]; rfl
def fvS (D:List A)(w:Bool)(l:List Int):St:=[.box [bl w],.box [.map 2],.mp false 1 (mki l),.box [.clo 58 [] [.rptr D,.ptr 0 0,.ptr 1 0,.ptr 3 0]]]
def fvA (D:List A)(e:Exp)(f:Bool):List A:=[.agg (zR e),bl f,.rptr D,.ptr 0 0,.ptr 1 0,.ptr 3 0]
def zUF (D:List A)(s:Id)(e:Exp):Prop:=∀(f w:Bool) (l:List Int),Ret prog 58 (fvA D e f) (fvS D w l) (.tup []) (fvS D (w||zEp s e f) ((zIL s e).foldl adI l))
theorem zRW (s:Id)(e:Exp)(f:Bool):zEp s e f=((decide (e.k=2)&&decide (e.ref=s)&&!f)||zCj s (decide (e.k=8)) e.kids):=by cases e; rfl
theorem zW1 (s:Id)(e:Exp):zIL s e=zHo s (decide (e.k=8)) e.n e.kids:=by cases e; rfl
theorem zJC (s:Id)(f:Bool):∀(l:List Exp) {i:Nat} (h:i<l.length),zCj s f (l.take (i+1))=(zCj s f (l.take i)||zEp s l[i] (f&&isS s l[i]))
 | [],i,h=>by simp at h
 | e::l,0,_=>by simp[zCj]
 | e::l,i+1,h=>by simp only[jCa,zCj,jD9];rw[zJC s f l (by simpa using h),Bool.or_assoc]
theorem zMI (s:Id)(f:Bool)(n:Int):∀(l:List Exp) {i:Nat} (h:i<l.length),zHo s f n (l.take (i+1))=zHo s f n (l.take i)++((if (f&&isS s l[i])=true then [n] else [])++zIL s l[i])
 | [],i,h=>by simp at h
 | e::l,0,_=>by simp[zHo]
 | e::l,i+1,h=>by simp only[jCa,zHo,jD9];rw[zMI s f n l (by simpa using h)];simp
theorem zNE (s:Id)(k:Exp):isS s k=(decide (k.k=2)&&decide (k.ref=s)):=rfl
theorem qCk (D D':List A)(u:Slt)(hD:D.drop 8=.sl 1 (yJ u)::D')(hv:∀rf g,vwL rf g D=D)(hn:qU D=D)(e:Exp)(ih:∀k∈e.kids,zUF D u.id k)(f w:Bool)(l:List Int) :
 wpK prog 4 zQs (fin [] (zFz 4 (.tup []) (fvS D (w||zCj u.id (decide (e.k=8)) e.kids) ((zHo u.id (decide (e.k=8)) e.n e.kids).foldl adI l)))) (qC [(2,.rptr D),(3,.ptr 0 0),(4,.ptr 1 0),(5,.ptr 3 0),(6,.ptr 4 0)]) (fvS D w l++[.box (zR e)]):=by
 obtain⟨b8,hb8⟩:∃b,b=decide (e.k=8):=⟨_,rfl⟩;rw[←hb8];unfold zQs;simp -implicitDefEqProofs [fvS,zR];intro hmx;refine jX (S:=Nat) (fun i=>[(2,.rptr D),(3,.ptr 0 0),(4,.ptr 1 0),(5,.ptr 3 0),(6,.ptr 4 0),(30,.sl e.kids.length (jR e.kids)),(31,int e.kids.length),(32,int i)])
  (fun i=>fvS D (w||zCj u.id b8 (e.kids.take i)) ((zHo u.id b8 e.n (e.kids.take i)).foldl adI l)++[.box (zR e)]) (fun i=>i≤e.kids.length) (fun i=>e.kids.length-i) 0 (by simp)
  (zP [0,1,2,3,4] 0 (by decide) (by decide) (by simp[fvS,hv,zR,zCj,zHo]) (by simp[hv])) ?_
 intro i hi;by_cases h:i<e.kids.length
 ·have hw:=qO h hmx;have hwt:=zJC u.id b8 e.kids h;have hmt:=zMI u.id b8 e.n e.kids h;have hne:¬e.kids=[]:=fun e'=>by rw[e']at h; simp at h
  have hk:=ih e.kids[i] (jA3 h);generalize hww:(w||zCj u.id b8 (e.kids.take i))=wi at *
  generalize hll:(zHo u.id b8 e.n (e.kids.take i)).foldl adI l=li at *
  have fold1:∀own:Bool,(b8&&isS u.id e.kids[i])=own→(zHo u.id b8 e.n (e.kids.take (i+1))).foldl adI l=(zIL u.id e.kids[i]).foldl adI (if own then adI li e.n else li):=fun own ho=>by rw[hmt,jCj,jCj,hll,ho];cases own<;>rfl
  have whole1:∀own:Bool,(b8&&isS u.id e.kids[i])=own→(w||zCj u.id b8 (e.kids.take (i+1)))=(wi||zEp u.id e.kids[i] own):=fun own ho=>by rw[hwt,ho,←Bool.or_assoc,hww]
  have hput:=zSD e.n li;by_cases c8:e.k=8
  ·by_cases ck:e.kids[i].k=2
   ·by_cases cr:e.kids[i].ref=u.id
    ·have ho:(b8&&isS u.id e.kids[i])=true:=by simp[hb8,zNE,c8,ck,cr]
     have e1:=fold1 _ ho;have e2:=whole1 _ ho;have hc:=hk true wi (adI li e.n);simp -implicitDefEqProofs [fvS,zR,h,hne,zBi h,c8,ck,cr,hD,yJ,zDB,hput];refine jN hc [0,1,2,3] (by decide) (by simp[fvS,hv]) (by simp[fvA,hv,zR,ck,cr]) ?_;simp -implicitDefEqProofs [fvS];exact zU (i+1) h (by omega) (zP [0,1,2,3,4] 0 (by decide) (by decide) (by simp[fvS,hv,zR,e1,e2,c8]) (by simp[hv,hw]))
    ·have ho:(b8&&isS u.id e.kids[i])=false:=by simp[zNE,cr]
     have e1:=fold1 _ ho;have e2:=whole1 _ ho;have hc:=hk false wi li;simp -implicitDefEqProofs [fvS,zR,h,hne,zBi h,c8,ck,cr,hD,yJ,zDB];refine jN hc [0,1,2,3] (by decide) (by simp[fvS,hv]) (by simp[fvA,hv,zR,ck]) ?_;simp -implicitDefEqProofs [fvS];exact zU (i+1) h (by omega) (zP [0,1,2,3,4] 0 (by decide) (by decide) (by simp[fvS,hv,zR,e1,e2,c8]) (by simp[hv,hw]))
   ·have ho:(b8&&isS u.id e.kids[i])=false:=by simp[zNE,ck]
    have e1:=fold1 _ ho;have e2:=whole1 _ ho;have hc:=hk false wi li;simp -implicitDefEqProofs [fvS,zR,h,hne,zBi h,c8,ck];refine jN hc [0,1,2,3] (by decide) (by simp[fvS,hv]) (by simp[fvA,hv,zR,c8]) ?_;simp -implicitDefEqProofs [fvS];exact zU (i+1) h (by omega) (zP [0,1,2,3,4] 0 (by decide) (by decide) (by simp[fvS,hv,zR,e1,e2,c8]) (by simp[hv,hw]))
  ·have ho:(b8&&isS u.id e.kids[i])=false:=by simp[hb8,c8]
   have e1:=fold1 _ ho;have e2:=whole1 _ ho;have hc:=hk false wi li;simp -implicitDefEqProofs [fvS,zR,h,hne,zBi h,c8];refine jN hc [0,1,2,3] (by decide) (by simp[fvS,hv]) (by simp[fvA,hv,zR,c8]) ?_;simp -implicitDefEqProofs [fvS];exact zU (i+1) h (by omega) (zP [0,1,2,3,4] 0 (by decide) (by decide) (by simp[fvS,hv,zR,e1,e2,c8]) (by simp[hv,hw]))
 ·have hie:i=e.kids.length:=by omega
  subst hie;rw[jBa];simp -implicitDefEqProofs [fvS,zR];exact zI [0,1,2,3] 0 (by decide) (by decide) (by simp[hv]) (by simp)
theorem zT5 (D D':List A)(u:Slt)(hD:D.drop 8=.sl 1 (yJ u)::D')(hv:∀rf g,vwL rf g D=D)(hn:qU D=D)(e:Exp)(ih:∀k∈e.kids,zUF D u.id k):zUF D u.id e:=by
 intro f w l;rw[zRW,zW1];refine zK Tryz.func58 rfl qHd (rs:=[]) (by kernel_rfl) ?_;unfold zZ5;rw[←Bool.or_assoc,show (fvS D w l).length=4 from rfl];have hL:=qCk D D' u hD hv hn e ih f;have hl8:1≤D.length-8:=by rw[←jC3,hD]; simp
 by_cases c1:e.k=2
 ·by_cases c2:e.ref=u.id
  ·have key:(decide (e.k=2)&&decide (e.ref=u.id)&&!f) = !f:=by simp[c1,c2]
   rw[key];have hL':=hL (w||!f) l;generalize zFz 4 (.tup []) (fvS D (w||!f||zCj u.id (decide (e.k=8)) e.kids) ((zHo u.id (decide (e.k=8)) e.n e.kids).foldl adI l))=Q at hL' ⊢;cases w
   ·cases f
    ·simp -implicitDefEqProofs [fvA,fvS,zR,c1,c2,hD,yJ,zDB];refine⟨_,_,zP [0,1,2,3,4] 0 (by decide) (by decide) ?_ ?_,hL'⟩
     ·simp[fvS,hv,zR,c1,c2]
     ·simp[hv]
    ·simp -implicitDefEqProofs [fvA,fvS,zR,c1,c2,hD,yJ,zDB];refine⟨_,_,zP [0,1,2,3,4] 0 (by decide) (by decide) ?_ ?_,hL'⟩
     ·simp[fvS,hv,zR,c1,c2]
     ·simp[hv]
   ·simp -implicitDefEqProofs [fvA,fvS,zR,c1,c2,hD,yJ,zDB];refine⟨_,_,zP [0,1,2,3,4] 0 (by decide) (by decide) ?_ ?_,hL'⟩
    ·simp[fvS,hv,zR,c1,c2]
    ·simp[hv]
  ·have key:(decide (e.k=2)&&decide (e.ref=u.id)&&!f)=false:=by simp[c2]
   rw[key,Bool.or_false];have hL':=hL w l;generalize zFz 4 (.tup []) (fvS D (w||zCj u.id (decide (e.k=8)) e.kids) ((zHo u.id (decide (e.k=8)) e.n e.kids).foldl adI l))=Q at hL' ⊢;simp -implicitDefEqProofs [fvA,fvS,zR,c1,c2,hD,yJ,zDB];refine⟨_,_,zP [0,1,2,3,4] 0 (by decide) (by decide) ?_ ?_,hL'⟩
   ·simp[fvS,hv,zR,c1]
   ·simp[hv]
 ·have key:(decide (e.k=2)&&decide (e.ref=u.id)&&!f)=false:=by simp[c1]
  rw[key,Bool.or_false];have hL':=hL w l;generalize zFz 4 (.tup []) (fvS D (w||zCj u.id (decide (e.k=8)) e.kids) ((zHo u.id (decide (e.k=8)) e.n e.kids).foldl adI l))=Q at hL' ⊢;simp -implicitDefEqProofs [fvA,fvS,zR,c1,hD];refine⟨_,_,zP [0,1,2,3,4] 0 (by decide) (by decide) ?_ ?_,hL'⟩
  ·simp[fvS,hv,zR]
  ·simp[hv]
def qGc:K:=G [kZ 2 [ki,ki,ki]] (G [M 3 0,kBi 4 3 32 .quo,⟨none,.bin (some 5) .add (kc 1) (kt 4)⟩,M 6 0,kBi 7 6 32 .rem,kb 8 [ki,ki,ki] [(1,1,(kt 5)),(2,1,(kt 7))],S 2 8 3] kr)
theorem qNb:zO prog Tryz.f64.ntmps (Tryz.f64.body.getD .skip)=some qGc.erase:=by kernel_rfl
@[simp] theorem qNG:zA prog 64=true:=by kernel_rfl
def zZ6:K:=G [kMi 4 0] (G [M 5 0,kU 6 5,D 7 6 1,L 8 7 1,kBi 9 8 1 .add,kU 10 5,D 11 10 1,S 11 9 1] (Z (K.dops [(0,0,M 12 0),(1,0,kU 13 12),(2,0,D 14 13 0),(3,0,L 15 14 1),(4,0,M 16 0),(5,0,kU 17 16),(6,0,D 18 17 1),(7,0,L 19 18 1),(8,0,kBi 20 19 1 .sub),(9,0,M 21 1),(10,0,kC 22 38 [(kt 15),(kt 20),(kt 21)]),(11,0,M 4 22)]) kr))
theorem qHe:zO prog Tryz.f65.ntmps (Tryz.f65.body.getD .skip)=some zZ6.erase:=by kernel_rfl
@[simp] theorem qKB:zA prog 65=true:=by kernel_rfl
def zUI:K:=G [kO 8 3,kZ 10 kz1] (G [M 11 0,kU 12 11,D 13 12 2,L 14 13 1,kBi 15 14 1 .add,kU 16 11,D 17 16 2,S 17 15 1] (Z (K.dops [(0,0,M 18 0),(1,0,kU 19 18),(2,0,D 20 19 2),(3,0,L 21 20 1),(4,0,kBi 22 21 1 .sub),(5,0,kC 23 64 [(kt 22)]),(6,0,M 24 1),(7,0,M 25 2),(8,0,J 26 8 3),(9,0,M 27 4),(10,0,kb 28 kz1 [(0,3,(kt 23)),(3,1,(kt 24)),(4,1,(kt 25)),(5,3,(kt 26)),(13,1,(kt 27))]),(11,0,S 10 28 15)]) kr))
theorem qBt:zO prog Tryz.f66.ntmps (Tryz.f66.body.getD .skip)=some zUI.erase:=by kernel_rfl
@[simp] theorem qHx:zA prog 66=true:=by kernel_rfl
def zUJ:K:=G [kO 6 1,kO 7 2,kO 8 3,kZ 10 kz1] (G [M 18 0,kC 19 65 [(kt 18),(kc 12)],M 11 19] (Z (G [kMi 12 0] (K.block 0 (K.loop (Z (G [M 20 12,D 21 7 8,L 22 21 1,kN 23 22,kB 24 20 23 .lss,M 25 24,T 25 true (M 26 11),T 25 true (kBi 27 26 3 .gtr),kPf 28 25 27] (Y 28 ks (K.exit 0))) (Z (K.block 1 (G [M 31 12,M 32 11,kB 33 31 32 .add,D 34 7 8,L 35 34 1,kN 36 35,kB 37 33 36 .rem,M 13 37] (Z (K.dops [(0,0,D 38 7 8),(1,0,L 39 38 1),(2,0,M 40 13),(3,0,kX 41 39 40 11),(4,0,D 42 41 4),(5,0,D 43 42 0),(6,0,L 44 43 1),(7,0,D 45 6 0),(8,0,L 46 45 1),(9,0,kQ 47 44 46 false),(10,0,M 48 47),(11,0,T 48 true (M 49 11)),(12,0,T 48 true (kBi 50 49 4 .gtr)),(13,0,kPf 51 48 50)]) (Y 51 (Z (K.dops [(0,0,M 52 0),(1,0,M 53 13),(2,2,D 54 7 0),(3,2001,J 55 54 3),(4,0,M 56 0),(5,0,J 57 8 3),(6,1001,kC 58 66 [(kt 56),(kc 2),(kc 0),(kt 57),(.const kl)]),(7,0,kd 59 39 15 1 kz1 [(0,15,(kt 58))]),(8,4,kC 60 66 [(kt 52),(kc 8),(kt 53),(kt 55),(kt 59)]),(9,0,S 10 60 15)]) kr) ks)))) (K.ops [M 29 12,kBi 30 29 1 .add,M 12 30])))))) (Z (G [M 61 11,kBi 62 61 3 .lss,M 63 62,T 63 true (M 64 4),T 63 true (kBi 65 64 0 .gtr),kPf 66 63 65,M 67 66,T 67 true (D 68 6 0),T 67 true (L 69 68 1),T 67 true (kQi 70 69 0 false),kPf 71 67 70] (Y 71 (G [M 72 0,J 73 6 5,J 74 7 31,J 75 8 3,M 76 4,kBi 77 76 1 .sub,kC 78 68 [(kt 72),(kt 73),(kt 74),(kt 75),(kt 77)],kZ 14 kz1,S 14 78 15] (Z (K.dops [(0,0,M 79 0),(1,0,kd 80 3 1 3 [ki,ki,ki] [(0,1,(kc 0)),(1,1,(kc 1)),(2,1,(kc 2))]),(2,0,M 81 11),(3,2,kX 82 80 81 1),(4,2,
 L 83 82 1),(5,0,kb 84 [ki,ki,ki] []),(6,2001,J 85 14 15),(7,0,M 86 0),(8,0,J 87 6 5),(9,0,J 88 7 31),(10,0,J 89 8 3),(11,0,M 90 4),(12,0,kBi 91 90 1 .sub),(13,1001,kC 92 68 [(kt 86),(kt 87),(kt 88),(kt 89),(kt 91)]),(14,0,kd 93 39 15 2 kz6 [(0,15,(kt 85)),(15,15,(kt 92))]),(15,4,kC 94 66 [(kt 79),(kc 4),(kt 83),(kt 84),(kt 93)]),(16,0,S 10 94 15)]) kr)) ks)) (Z (G [M 95 11,kBi 96 95 2 .lss,M 97 96,T 97 true (M 98 4),T 97 true (kBi 99 98 0 .gtr),kPf 100 97 99] (Y 100 (G [M 101 0,J 102 6 5,J 103 7 31,J 104 8 3,M 105 4,kBi 106 105 1 .sub,kC 107 68 [(kt 101),(kt 102),(kt 103),(kt 104),(kt 106)],kZ 15 kz1,S 15 107 15] (Z (K.dops [(0,0,M 108 0),(1,0,kd 109 3 1 2 [ki,ki] [(0,1,(kc 7)),(1,1,(kc 8))]),(2,0,M 110 11),(3,2,kX 111 109 110 1),(4,2,L 112 111 1),(5,0,kb 113 [ki,ki,ki] []),(6,2001,J 114 15 15),(7,0,M 115 0),(8,0,J 116 6 5),(9,0,J 117 7 31),(10,0,J 118 8 3),(11,0,M 119 4),(12,0,kBi 120 119 1 .sub),(13,1001,kC 121 68 [(kt 115),(kt 116),(kt 117),(kt 118),(kt 120)]),(14,0,kd 122 39 15 2 kz6 [(0,15,(kt 114)),(15,15,(kt 121))]),(15,4,kC 123 66 [(kt 108),(kc 4),(kt 112),(kt 113),(kt 122)]),(16,0,S 10 123 15)]) kr)) ks)) (Z (G [M 124 11,kQi 125 124 3 false,M 126 125,T 126 true (M 127 4),T 126 true (kBi 128 127 0 .gtr),kPf 129 126 128] (Y 129 (G [M 130 0,kb 131 kz2 [(0,1,(kc 1))],J 132 7 31,J 133 8 3,kC 134 68 [(kt 130),(kt 131),(kt 132),(kt 133),(kc 0)],kZ 16 kz1,S 16 134 15] (G [M 135 0,J 136 6 5,J 137 7 31,J 138 8 3,
 M 139 4,kBi 140 139 1 .sub,kC 141 68 [(kt 135),(kt 136),(kt 137),(kt 138),(kt 140)],kZ 17 kz1,S 17 141 15] (Z (K.dops [(0,0,M 142 0),(1,0,kb 143 [ki,ki,ki] []),(2,2001,J 144 16 15),(3,2001,J 145 17 15),(4,0,M 146 0),(5,0,J 147 6 5),(6,0,J 148 7 31),(7,0,J 149 8 3),(8,0,M 150 4),(9,0,kBi 151 150 1 .sub),(10,1001,kC 152 68 [(kt 146),(kt 147),(kt 148),(kt 149),(kt 151)]),(11,0,kd 153 39 15 3 kz4 [(0,15,(kt 144)),(15,15,(kt 145)),(30,15,(kt 152))]),(12,4,kC 154 66 [(kt 142),(kc 5),(kc 0),(kt 143),(kt 153)]),(13,0,S 10 154 15)]) kr))) ks)) (Z (G [D 155 6 0,L 156 155 1,kQi 157 156 1 false] (Y 157 (G [M 158 0,M 159 0,kC 160 65 [(kt 159),(kc 2)],kb 161 [ki,ki,ki] [],kC 162 66 [(kt 158),(kc 1),(kt 160),(kt 161),(.const kl)],S 10 162 15] kr) ks)) (G [M 163 0,M 164 0,kC 165 65 [(kt 164),(kc 4)],kBi 166 165 1 .sub,kb 167 [ki,ki,ki] [],kC 168 66 [(kt 163),(kc 0),(kt 166),(kt 167),(.const kl)],S 10 168 15] kr)))))))
def qCp:Nat→Option (List (Nat×Nat)):=fun r=>match r with | 7=>some [(0,0),(1,0),(2,2),(3,2001),(4,0),(5,0),(6,1001),(7,0),(8,4),(9,0)] | 10=>some [(0,0),(1,0),(2,0),(3,2),(4,2),(5,0),(6,2001),(7,0),(8,0),(9,0),(10,0),(11,0),(12,0),(13,1001),(14,0),(15,4),(16,0)] | 13=>some [(0,0),(1,0),(2,0),(3,2),(4,2),(5,0),(6,2001),(7,0),(8,0),(9,0),(10,0),(11,0),(12,0),(13,1001),(14,0),(15,4),(16,0)] | 17=>some [(0,0),(1,0),(2,2001),(3,2001),(4,0),(5,0),(6,0),(7,0),(8,0),(9,0),(10,1001),(11,0),(12,4),(13,0)] | _=>none
theorem qBu:qF prog Tryz.f68.ntmps qCp (Tryz.f68.body.getD .skip)=some zUJ.erase:=by kernel_rfl
@[simp] theorem qHy:zA prog 68=true:=by kernel_rfl
theorem zFS (k:Int):Ret prog 64 [int k] [] (.agg (zF (idR k))) []:=by refine zK Tryz.func64 rfl qNb (rs:=[.cell 2 3 true]) (by kernel_rfl) ?_;unfold qGc;simp -implicitDefEqProofs;exact zB 0 (by simp[zF,idR])
def gB (l:List Int)(m:Gm):List A:=[.sl l.length (zBe l),int m.at_,int m.next]
def gS (l:List Int)(m:Gm):St:=[.box (gB l m)]
def Gm.Ok (m:Gm)(c:Int):Prop:=0≤m.at_∧m.at_+c≤1000000∧0≤m.next∧m.next+c≤1000000
def Gst (m m':Gm)(c:Int):Prop:=m.at_≤m'.at_∧m'.at_≤m.at_+c∧m.next≤m'.next∧m'.next≤m.next+c
theorem Gst.refl (m:Gm){c:Int}(h:0≤c):Gst m m c:=by unfold Gst; omega
theorem Gst.trans {a b m:Gm}{c d e:Int}(h1:Gst a b c)(h2:Gst b m d)(h:c+d≤e):Gst a m e:=by unfold Gst at *; omega
theorem Gst.mono {a b:Gm}{c d:Int}(h1:Gst a b c)(h:c≤d):Gst a b d:=by unfold Gst at *; omega
theorem Gm.Ok.adv {a b:Gm}{c d e:Int}(h:a.Ok e)(h1:Gst a b c)(h2:c+d≤e):b.Ok d:=by unfold Gst Gm.Ok at *; omega
theorem Gm.Ok.mono {a:Gm}{c d:Int}(h:a.Ok c)(h1:d≤c):a.Ok d:=by unfold Gm.Ok at *; omega
theorem zY (m:Gm):Gst m m.tick 1:=by simp only[Gst,Gm.tick]; omega
theorem zBJ (m:Gm)(k n:Int)(r:Id)(ks:List Exp):Gst m (yK m k n r ks).2 1:=by simp only[Gst,yK]; omega
theorem zN4 (m:Gm)(k:Nat)(d s:Id):Gst m (zLC m k d s).2 2:=(zBJ m _ _ _ _).trans (zBJ _ _ _ _ _) (by omega)
theorem zPh (l:List Int)(t:Int)(m:Gm):Gst m (zFR l t m).2 2:=by
 unfold zFR;split
 ·exact(zY m).trans (zBJ _ _ _ _ _) (by omega)
 ·exact(zY m).trans (zBJ _ _ _ _ _) (by omega)
theorem zMx (l:List Int)(d:Dfn)(s:Id)(t:Int)(m:Gm):Gst m (zES l d s t m).2 3:=by
 unfold zES;split
 ·exact(zY m).trans (zN4 _ _ _ _) (by omega)
 ·exact(zY m).trans (zPh _ _ _) (by omega)
def gC:Nat→Int
 | 0=>3
 | n+1=>2*gC n+5
theorem zN3:∀n,3≤gC n
 | 0=>by simp[gC]
 | n+1=>by have:=zN3 n; simp only[gC]; omega
theorem zSz {f:Gm→Exp×Gm}{c:Int}(hf:∀m,Gst m (f m).2 c)(m:Gm)(n:Int):Gst m (zT6 f m n).2 (2*c+1) :=
 (((hf m).trans (hf _) (jAd _)).trans (zBJ _ _ _ _ _) (by omega))
theorem qCl {f g:Gm→Exp×Gm}{c b:Int}(hf:∀m,Gst m (f m).2 b)(hg:∀m,Gst m (g m).2 c)(m:Gm):Gst m (gIf f g m).2 (b+2*c+1) :=
 ((((hf m).trans (hg _) (jAd _)).trans (hg _) (jAd _)).trans (zBJ _ _ _ _ _) (by omega))
theorem zBK (l:List Int)(d:Dfn)(s:Id):∀(n:Nat) (t:Int) (m:Gm),Gst m (zA8 l d s n t m).2 (gC n)
 | 0,t,m=>zMx l d s t m
 | n+1,t,m=>by
  have ih:=zBK l d s n t;have h3:=zN3 n;unfold zA8;simp only[gC];split
  ·exact(zY m).trans (zN4 _ _ _ _) (by omega)
  ·split
   ·exact(zY m).trans (zSz ih _ _) (by omega)
   ·split
    ·exact(zY m).trans (zSz ih _ _) (by omega)
    ·split
     ·exact(zY m).trans (qCl (zMx l d s 1) ih _) (by omega)
     ·exact(zY m).trans (zPh _ _ _) (by omega)
section
variable {l:List Int}
theorem zBs (m:Gm)(n:Int)(hn:0<n)(h:m.Ok 1):Ret prog 65 [.ptr 0 0,int n] (gS l m) (int (gN l m n)) (gS l m.tick):=by obtain⟨h1,h2,h3,h4⟩:=h;refine zK Tryz.func65 rfl qHe (rs:=[.slot 4]) (by kernel_rfl) ?_;unfold zZ6;have w1:=jT (m.at_+1) (by omega);have w2:=jT m.at_ (by omega);simp -implicitDefEqProofs [gS,gB,w1,w2];refine qR (qGy l m.at_ n hn) (by simp) (by simp) ?_;simp -implicitDefEqProofs;exact zI [0] 0 (by decide) (by simp) (by simp[Gm.tick]) (by simp[gN])
theorem zBd (hl:∀x∈l,w64 x=x)(m:Gm){n:Int}(hn:0<n):0≤gN l m n∧gN l m n<n:=zBY hl hn
theorem zAM (m:Gm)(k n:Int)(r:Id)(ks:List Exp)(h:m.Ok 1):Ret prog 66 [.ptr 0 0,int k,int n,.agg (zF r),.sl ks.length (jR ks)] (gS l m) (.agg (zR (yK m k n r ks).1)) (gS l (yK m k n r ks).2):=by obtain⟨h1,h2,h3,h4⟩:=h;refine zK Tryz.func66 rfl qBt (rs:=[.cell 10 15 true]) (by kernel_rfl) ?_;unfold zUI;have w1:=jT (m.next+1) (by omega);have w2:=jT m.next (by omega);simp -implicitDefEqProofs [gS,gB,w1,w2,zF];refine qR (zFS m.next) (by simp) (by simp[zF]) ?_;simp -implicitDefEqProofs [zF];exact zI [0] 0 (by decide) (by simp) (by simp[yK]) (by simp[zR,yK,Typ.zero,Typ.k,Typ.id,Typ.kids,Id.zero])
theorem zQQ {ss:List Slt}{t x:Int}(h:∀i,i<ss.length→∀s,ss[zF0 ss.length x i]?=some s→¬(s.typ.k=t∧4<x)):zGN ss t x=none:=by
 unfold zGN;split
 ·rename_i h4;rw[Option.map_eq_none_iff,List.find?_eq_none];intro i hi;rw[jC7]at hi;split
  ·rename_i s hs;intro hh;exact h i hi s hs ⟨by simpa using hh,h4⟩
  ·simp
 ·rfl
theorem zT4 {ss:List Slt}{t x:Int}{i:Nat}(hi:i<ss.length){s:Slt}(hs:ss[zF0 ss.length x i]?=some s)(h1:s.typ.k=t)(h4:4<x)(hb:∀j,j<i→∀u,ss[zF0 ss.length x j]?=some u→¬u.typ.k=t):zGN ss t x=some (zF0 ss.length x i):=by
 unfold zGN;rw[if_pos h4];refine jAb.2 ⟨i,?_,rfl⟩;rw[List.find?_eq_some_iff_getElem];refine⟨by simp[hs,h1],i,by simpa using hi,by simp,fun j hj=>?_⟩;simp only[List.getElem_range];cases hu:ss[zF0 ss.length x j]? with
 | none=>rfl
 | some u=>simp[hb j hj u hu]
theorem qJH {t:Int}(ht:t=0∨t=1):(tK t).k=t:=by rcases ht with rfl | rfl<;>rfl
theorem zXg {t:Int}(ht:t=0∨t=1):zS (tK t)=[int t,int 0,int 0,int 0,.sl 0 []]:=by rcases ht with rfl | rfl<;>rfl
theorem zAD:zR Exp.zero=[int 0,int 0,int 0,int 0,int 0,int 0,int 0,int 0,int 0,int 0,int 0,int 0,.sl 0 [],.sl 0 [],.sl 0 []]:=rfl
def qGt (ss:List Slt)(t:Int)(X:Int)(i:Nat):Prop:=i≤ss.length∧∀j,j<i→∀u,ss[zF0 ss.length X j]?=some u→¬(u.typ.k=t∧4<X)
def zNm (l:List Int)(d:Dfn)(s:Id)(n:Nat):Prop:=∀(m:Gm) (t:Int),t=0∨t=1→m.Ok (gC n) →
 Ret prog 68 [.ptr 0 0,.agg (zS (tK t)),.agg (zH d),.agg (zF s),int n] (gS l m) (.agg (zR (zA8 l d s n t m).1)) (gS l (zA8 l d s n t m).2)
theorem zML (hl:∀x∈l,w64 x=x)(d:Dfn)(s:Id)(hfew:d.slots.length≤6)(N:Nat)(hN:N≤2)(ih:∀n,N=n+1→zNm l d s n∧zNm l d s 0):zNm l d s N:=by
 intro m t ht hok;have hc3:=zN3 N;have hok':=hok;obtain⟨x0,x1⟩:=zBd hl m (n:=12) (by omega);obtain⟨X,hX⟩:∃X:Nat,gN l m 12=X:=⟨(gN l m 12).toNat,by omega⟩;have htk:=qJH ht;have htd:=zXg ht;have hg:∀q,q=zA8 l d s N t m→Ret prog 68 [.ptr 0 0,.agg (zS (tK t)),.agg (zH d),.agg (zF s),int N] (gS l m) (.agg (zR q.1)) (gS l q.2):=by
  intro q hq;refine qS Tryz.func68 rfl qBu (rs:=[.cell 10 15 true]) (by kernel_rfl) ?_;unfold zUJ;simp -implicitDefEqProofs [gS,gB,htd];refine jN (zBs (l:=l) m 12 (by omega) (hok'.mono (by omega))) [0] (by decide) (by simp[gS,gB]) (by simp) ?_;simp -implicitDefEqProofs [gS,gB];rw[hX];rw[hX]at x1;refine jX (S:=Nat) (fun i=>[(0,.ptr 0 0),(4,int N),(6,.ptr 1 0),(7,.ptr 2 0),(8,.ptr 3 0),(10,.ptr 4 0),(11,int X),(12,int i)])
   (fun i=>gS l m.tick++[.box (zS (tK t)),.box (zH d),.box (zF s),.box (zR Exp.zero)]) (qGt d.slots t X) (fun i=>d.slots.length-i) 0 ⟨by omega,fun j hj=>by omega⟩
   (zP [0,1,2,3,4] 0 (by decide) (by simp) (by simp[gS,gB,htd,zAD,Gm.tick]) (by simp)) ?_
  rintro i ⟨hi,hno⟩;by_cases hin:i<d.slots.length∧(3:Int)<X
  ·obtain⟨h1,h3⟩:=hin;have hw:=jT ((i:Int)+X) (by omega);have hk:zF0 d.slots.length X i<d.slots.length:=Nat.mod_lt _ (by omega);have hne:d.slots≠[]:=fun e=>by rw[e]at h1; simp at h1
   have hmod:((i:Int)+X).tmod d.slots.length=((zF0 d.slots.length X i:Nat):Int):=by rw[jDf (by omega)];simp[zF0]
   have hget:d.slots[zF0 d.slots.length X i]?=some d.slots[zF0 d.slots.length X i]:=jA2 hk;have hnext:¬(d.slots[zF0 d.slots.length X i].typ.k=t∧(4:Int)<X)→∀j,j<i+1→∀u,d.slots[zF0 d.slots.length X j]?=some u→¬(u.typ.k=t∧4<(X:Int)):=fun hh j hj u hu=>by
    by_cases e:j=i
    ·subst e; rw[hget]at hu; cases hu; exact hh
    ·exact hno j (by omega) u hu
   have hhit:d.slots[zF0 d.slots.length X i].typ.k=t→(4:Int)<X→zGN d.slots t (gN l m 12)=some (zF0 d.slots.length X i):=fun a b=>by rw[hX];exact zT4 h1 hget a b fun j hj u hu e=>hno j hj u hu ⟨e,b⟩
   generalize zF0 d.slots.length X i=k at hk hmod hget hnext hhit;by_cases h5:d.slots[k].typ.k=t
   ·by_cases h4:(4:Int)<X
    ·have hq2:q=zLC m.tick k d.id s:=by cases N<;>rw[hq,zA8]<;>simp only[zES,hhit h5 h4]
     have g1:=zAM (l:=l) m.tick 2 0 s [] (hok'.adv (zY m) (by omega));have g2:=zAM (l:=l) (yK m.tick 2 0 s []).2 8 k d.id [(yK m.tick 2 0 s []).1] (hok'.adv ((zY m).trans (zBJ _ _ _ _ _) (jAd _)) (by omega));simp -implicitDefEqProofs [gS,gB,htd,zH,h1,h3,h4,h5,hw,hmod,hk,hne,yB hk,yJ];intro _;refine zBq g1 [0] (by decide) (by simp[gS,gB]) (by simp) (by decide) (by simp) (by simp[gS]) ?_;simp -implicitDefEqProofs [gS,gB];refine zAK g2 [0] (by decide) (by simp[gS,gB]) (by simp[qA,zF]) ?_;simp -implicitDefEqProofs [gS,gB];rw[hq2];exact zI [0] 0 (by decide) (by simp) (by simp[zLC]) (by simp[zLC,zR])
    ·simp -implicitDefEqProofs [gS,gB,htd,zH,h1,h3,h4,h5,hw,hmod,hk,hne,yB hk,yJ];exact fun _=>zU (i+1) ⟨h1,hnext (fun hh=>h4 hh.2)⟩ (by omega) (zP [0,1,2,3,4] 0 (by decide) (by simp) (by simp[gS,gB,htd,zAD,zH]) (by simp[qO h1 (show d.slots.length≤maxLen by simp[maxLen]; omega)]))
   ·simp -implicitDefEqProofs [gS,gB,htd,zH,h1,h3,h5,hw,hmod,hk,hne,yB hk,yJ];exact fun _=>zU (i+1) ⟨h1,hnext (fun hh=>h5 hh.1)⟩ (by omega) (zP [0,1,2,3,4] 0 (by decide) (by simp) (by simp[gS,gB,htd,zAD,zH]) (by simp[qO h1 (show d.slots.length≤maxLen by simp[maxLen]; omega)]))
  ·have hnone:zGN d.slots t (gN l m 12)=none:=by
    rw[hX];refine zQQ fun j hj u hu=>?_
    by_cases h3:(3:Int)<X
    ·exact hno j (by omega) u hu
    ·omega
   have hexit:(¬i<d.slots.length∧(0:Int)≤X)∨(i<d.slots.length∧¬(3:Int)<X):=by omega
   cases N with
   | zero =>
    have hq3:q=zFR l t m.tick:=by rw[hq,zA8]; simp only[zES,hnone]
    rcases ht with rfl | rfl
    ·have hq2:q=yK m.tick.tick 0 (gN l m.tick 4-1) Id.zero []:=by rw[hq3,zFR]; simp
     have n1:=zBs (l:=l) m.tick 4 (by omega) (hok'.adv (zY m) (by omega));have g:=zAM (l:=l) m.tick.tick 0 (gN l m.tick 4-1) Id.zero [] (hok'.adv ((zY m).trans (zY _) (jAd _)) (by omega));obtain⟨v0,v1⟩:=zBd hl m.tick (n:=4) (by omega);have hv:=jT (gN l m.tick 4-1) (by omega);have hcs:((X:Int)<2∧(X:Int)<3∧¬(X:Int)=3)∨(¬(X:Int)<2∧(X:Int)<3∧¬(X:Int)=3)∨(¬(X:Int)<2∧¬(X:Int)<3∧(X:Int)=3)∨(¬(X:Int)<2∧¬(X:Int)<3∧¬(X:Int)=3):=by omega
     rcases hcs with ⟨hB,hX3,hX4⟩ | ⟨hB,hX3,hX4⟩ | ⟨hB,hX3,hX4⟩ | ⟨hB,hX3,hX4⟩<;>rcases hexit with ⟨hE,hE2⟩ | ⟨hE,hE2⟩ <;>
      (simp -implicitDefEqProofs [gS,gB,htd,zH,hE,hE2,hB,hX3,hX4]
       intro _;refine jN n1 [0] (by decide) (by simp[gS,gB]) (by simp) ?_;simp -implicitDefEqProofs [gS,gB,hv];refine jN g [0] (by decide) (by simp[gS,gB]) (by simp[zF,Id.zero]) ?_;simp -implicitDefEqProofs [gS,gB];rw[hq2];exact zI [0] 0 (by decide) (by simp) (by simp) (by simp[yK,zR]))
    ·have hq2:q=yK m.tick.tick 1 (gN l m.tick 2) Id.zero []:=by rw[hq3,zFR]; simp
     have n1:=zBs (l:=l) m.tick 2 (by omega) (hok'.adv (zY m) (by omega));have g:=zAM (l:=l) m.tick.tick 1 (gN l m.tick 2) Id.zero [] (hok'.adv ((zY m).trans (zY _) (jAd _)) (by omega));obtain⟨v0,v1⟩:=zBd hl m.tick (n:=2) (by omega);have hcs:((X:Int)<2∧(X:Int)<3∧¬(X:Int)=3)∨(¬(X:Int)<2∧(X:Int)<3∧¬(X:Int)=3)∨(¬(X:Int)<2∧¬(X:Int)<3∧(X:Int)=3)∨(¬(X:Int)<2∧¬(X:Int)<3∧¬(X:Int)=3):=by omega
     rcases hcs with ⟨hB,hX3,hX4⟩ | ⟨hB,hX3,hX4⟩ | ⟨hB,hX3,hX4⟩ | ⟨hB,hX3,hX4⟩<;>rcases hexit with ⟨hE,hE2⟩ | ⟨hE,hE2⟩ <;>
      (simp -implicitDefEqProofs [gS,gB,htd,zH,hE,hE2,hB,hX3,hX4]
       intro _;refine jN n1 [0] (by decide) (by simp[gS,gB]) (by simp) ?_;simp -implicitDefEqProofs [gS,gB];refine jN g [0] (by decide) (by simp[gS,gB]) (by simp[zF,Id.zero]) ?_;simp -implicitDefEqProofs [gS,gB];rw[hq2];exact zI [0] 0 (by decide) (by simp) (by simp) (by simp[yK,zR]))
   | succ n =>
    obtain⟨ih,ih0⟩:=ih n rfl;have hc3:=zN3 n;have hok':m.Ok (2*gC n+5):=hok;have hwn:=jT (n:Int) (by omega);have h0n:(0:Int)<(n:Int)+1:=by omega
    obtain⟨a,ha⟩:∃a,a=zA8 l d s n t m.tick:=⟨_,rfl⟩;have c1:=ih m.tick t ht (hok'.adv (zY m) (by omega));have sa:=zBK l d s n t m.tick;rw[←ha]at c1 sa;obtain⟨b,hb⟩:∃b,b=zA8 l d s n t a.2:=⟨_,rfl⟩;have c2:=ih a.2 t ht (hok'.adv ((zY m).trans sa (jAd _)) (by omega));have sb:=zBK l d s n t a.2;rw[←hb]at c2 sb;have okb:b.2.Ok 1:=hok'.adv (((zY m).trans sa (jAd _)).trans sb (jAd _)) (by omega);by_cases hA:(X:Int)<3∧t=0
    ·obtain⟨hA1,hA2⟩:=hA;subst hA2;have hq2:q=yK b.2 4 X Id.zero [a.1,b.1]:=by rw[hq,zA8,hnone];simp only[hX];rw[if_pos ⟨hA1,trivial⟩,zT6,←ha,←hb]
     have g:=zAM (l:=l) b.2 4 X Id.zero [a.1,b.1] okb;rcases hexit with ⟨hE,hE2⟩ | ⟨hE,hE2⟩
     ·simp -implicitDefEqProofs [gS,gB,htd,zH,hE,hE2,h0n,hwn,hA1];intro _;refine jN c1 [0] (by decide) (by simp[gS,gB]) (by simp[htd,zH,zF]) ?_;simp -implicitDefEqProofs [gS,gB];obtain rfl | rfl | rfl:X=0∨X=1∨X=2:=by omega
      ·simp -implicitDefEqProofs [gS,gB,htd,zH,h0n,hwn];refine zBq c2 [0] (by decide) (by simp[gS,gB]) (by simp[htd,zH,zF]) (by decide) (by simp) (by simp[gS]) ?_;simp -implicitDefEqProofs [gS,gB];refine zAK g [0] (by decide) (by simp[gS,gB]) (by simp[qA,zF,Id.zero]) ?_;simp -implicitDefEqProofs [gS,gB];rw[hq2];exact zI [0] 0 (by decide) (by simp) (by simp) (by simp[yK,zR])
      ·simp -implicitDefEqProofs [gS,gB,htd,zH,h0n,hwn];refine zBq c2 [0] (by decide) (by simp[gS,gB]) (by simp[htd,zH,zF]) (by decide) (by simp) (by simp[gS]) ?_;simp -implicitDefEqProofs [gS,gB];refine zAK g [0] (by decide) (by simp[gS,gB]) (by simp[qA,zF,Id.zero]) ?_;simp -implicitDefEqProofs [gS,gB];rw[hq2];exact zI [0] 0 (by decide) (by simp) (by simp) (by simp[yK,zR])
      ·simp -implicitDefEqProofs [gS,gB,htd,zH,h0n,hwn];refine zBq c2 [0] (by decide) (by simp[gS,gB]) (by simp[htd,zH,zF]) (by decide) (by simp) (by simp[gS]) ?_;simp -implicitDefEqProofs [gS,gB];refine zAK g [0] (by decide) (by simp[gS,gB]) (by simp[qA,zF,Id.zero]) ?_;simp -implicitDefEqProofs [gS,gB];rw[hq2];exact zI [0] 0 (by decide) (by simp) (by simp) (by simp[yK,zR])
     ·simp -implicitDefEqProofs [gS,gB,htd,zH,hE,hE2,h0n,hwn,hA1];intro _;refine jN c1 [0] (by decide) (by simp[gS,gB]) (by simp[htd,zH,zF]) ?_;simp -implicitDefEqProofs [gS,gB];obtain rfl | rfl | rfl:X=0∨X=1∨X=2:=by omega
      ·simp -implicitDefEqProofs [gS,gB,htd,zH,h0n,hwn];refine zBq c2 [0] (by decide) (by simp[gS,gB]) (by simp[htd,zH,zF]) (by decide) (by simp) (by simp[gS]) ?_;simp -implicitDefEqProofs [gS,gB];refine zAK g [0] (by decide) (by simp[gS,gB]) (by simp[qA,zF,Id.zero]) ?_;simp -implicitDefEqProofs [gS,gB];rw[hq2];exact zI [0] 0 (by decide) (by simp) (by simp) (by simp[yK,zR])
      ·simp -implicitDefEqProofs [gS,gB,htd,zH,h0n,hwn];refine zBq c2 [0] (by decide) (by simp[gS,gB]) (by simp[htd,zH,zF]) (by decide) (by simp) (by simp[gS]) ?_;simp -implicitDefEqProofs [gS,gB];refine zAK g [0] (by decide) (by simp[gS,gB]) (by simp[qA,zF,Id.zero]) ?_;simp -implicitDefEqProofs [gS,gB];rw[hq2];exact zI [0] 0 (by decide) (by simp) (by simp) (by simp[yK,zR])
      ·simp -implicitDefEqProofs [gS,gB,htd,zH,h0n,hwn];refine zBq c2 [0] (by decide) (by simp[gS,gB]) (by simp[htd,zH,zF]) (by decide) (by simp) (by simp[gS]) ?_;simp -implicitDefEqProofs [gS,gB];refine zAK g [0] (by decide) (by simp[gS,gB]) (by simp[qA,zF,Id.zero]) ?_;simp -implicitDefEqProofs [gS,gB];rw[hq2];exact zI [0] 0 (by decide) (by simp) (by simp) (by simp[yK,zR])
    ·by_cases hB:(X:Int)<2
     ·have ht1:t=1:=by omega
      subst ht1;have hX3:(X:Int)<3:=by omega
      have hq2:q=yK b.2 4 (7+X) Id.zero [a.1,b.1]:=by rw[hq,zA8,hnone];simp only[hX];rw[if_neg (by omega),if_pos hB,zT6,←ha,←hb]
      have g:=zAM (l:=l) b.2 4 (7+X) Id.zero [a.1,b.1] okb;rcases hexit with ⟨hE,hE2⟩ | ⟨hE,hE2⟩
      ·simp -implicitDefEqProofs [gS,gB,htd,zH,hE,hE2,h0n,hwn,hB,hX3];intro _;refine jN c1 [0] (by decide) (by simp[gS,gB]) (by simp[htd,zH,zF]) ?_;simp -implicitDefEqProofs [gS,gB];obtain rfl | rfl:X=0∨X=1:=by omega
       ·simp -implicitDefEqProofs [gS,gB,htd,zH,h0n,hwn];refine zBq c2 [0] (by decide) (by simp[gS,gB]) (by simp[htd,zH,zF]) (by decide) (by simp) (by simp[gS]) ?_;simp -implicitDefEqProofs [gS,gB];refine zAK g [0] (by decide) (by simp[gS,gB]) (by simp[qA,zF,Id.zero]) ?_;simp -implicitDefEqProofs [gS,gB];rw[hq2];exact zI [0] 0 (by decide) (by simp) (by simp) (by simp[yK,zR])
       ·simp -implicitDefEqProofs [gS,gB,htd,zH,h0n,hwn];refine zBq c2 [0] (by decide) (by simp[gS,gB]) (by simp[htd,zH,zF]) (by decide) (by simp) (by simp[gS]) ?_;simp -implicitDefEqProofs [gS,gB];refine zAK g [0] (by decide) (by simp[gS,gB]) (by simp[qA,zF,Id.zero]) ?_;simp -implicitDefEqProofs [gS,gB];rw[hq2];exact zI [0] 0 (by decide) (by simp) (by simp) (by simp[yK,zR])
      ·simp -implicitDefEqProofs [gS,gB,htd,zH,hE,hE2,h0n,hwn,hB,hX3];intro _;refine jN c1 [0] (by decide) (by simp[gS,gB]) (by simp[htd,zH,zF]) ?_;simp -implicitDefEqProofs [gS,gB];obtain rfl | rfl:X=0∨X=1:=by omega
       ·simp -implicitDefEqProofs [gS,gB,htd,zH,h0n,hwn];refine zBq c2 [0] (by decide) (by simp[gS,gB]) (by simp[htd,zH,zF]) (by decide) (by simp) (by simp[gS]) ?_;simp -implicitDefEqProofs [gS,gB];refine zAK g [0] (by decide) (by simp[gS,gB]) (by simp[qA,zF,Id.zero]) ?_;simp -implicitDefEqProofs [gS,gB];rw[hq2];exact zI [0] 0 (by decide) (by simp) (by simp) (by simp[yK,zR])
       ·simp -implicitDefEqProofs [gS,gB,htd,zH,h0n,hwn];refine zBq c2 [0] (by decide) (by simp[gS,gB]) (by simp[htd,zH,zF]) (by decide) (by simp) (by simp[gS]) ?_;simp -implicitDefEqProofs [gS,gB];refine zAK g [0] (by decide) (by simp[gS,gB]) (by simp[qA,zF,Id.zero]) ?_;simp -implicitDefEqProofs [gS,gB];rw[hq2];exact zI [0] 0 (by decide) (by simp) (by simp) (by simp[yK,zR])
     ·by_cases hX4:(X:Int)=3
      ·have hX3:¬(X:Int)<3:=by omega
       clear c1 c2 sa sb okb;clear hb;clear b;clear ha;clear a;have c0:=ih0 m.tick 1 (.inr rfl) (hok'.adv (zY m) (by simp only[gC]; omega));have s0:=zBK l d s 0 1 m.tick;obtain⟨c,hc⟩:∃c,c=zA8 l d s 0 1 m.tick:=⟨_,rfl⟩;rw[←hc]at c0 s0;have d1:=ih c.2 t ht (hok'.adv ((zY m).trans s0 (jAd _)) (by simp only[gC]; omega));have s1:=zBK l d s n t c.2;obtain⟨a,ha⟩:∃a,a=zA8 l d s n t c.2:=⟨_,rfl⟩;rw[←ha]at d1 s1;have d2:=ih a.2 t ht (hok'.adv (((zY m).trans s0 (jAd _)).trans s1 (jAd _)) (by simp only[gC]; omega));have s2:=zBK l d s n t a.2;obtain⟨b,hb⟩:∃b,b=zA8 l d s n t a.2:=⟨_,rfl⟩;rw[←hb]at d2 s2;have g:=zAM (l:=l) b.2 5 0 Id.zero [c.1,a.1,b.1] (hok'.adv ((((zY m).trans s0 (jAd _)).trans s1 (jAd _)).trans s2 (jAd _)) (by simp only[gC]; omega));have hq2:q=yK b.2 5 0 Id.zero [c.1,a.1,b.1]:=by have e0:zES l d s 1 m.tick=c:=hc.symm;rw[hq,zA8,hnone];simp only[hX];rw[if_neg (by omega),if_neg (by omega),if_pos hX4,gIf];simp only[e0,←ha,←hb]
       rcases hexit with ⟨hE,hE2⟩ | ⟨hE,hE2⟩
       ·simp -implicitDefEqProofs [gS,gB,htd,zH,hE,hE2,h0n,hwn,hB,hX3,hX4];intro _;refine jN c0 [0] (by decide) (by simp[gS,gB]) (by simp[zS,yZ,tK,zH,zF,Typ.k,Typ.id,Typ.kids]) ?_;simp -implicitDefEqProofs [gS,gB,htd,zH,h0n,hwn];refine jN d1 [0] (by decide) (by simp[gS,gB]) (by simp[htd,zH,zF]) ?_;simp -implicitDefEqProofs [gS,gB,htd,zH,h0n,hwn];refine zBq d2 [0] (by decide) (by simp[gS,gB]) (by simp[htd,zH,zF]) (by decide) (by simp) (by simp[gS]) ?_;simp -implicitDefEqProofs [gS,gB];refine zAK g [0] (by decide) (by simp[gS,gB]) (by simp[qA,zR,zF,Id.zero]) ?_;simp -implicitDefEqProofs [gS,gB];rw[hq2];exact zI [0] 0 (by decide) (by simp) (by simp) (by simp[yK,zR])
       ·simp -implicitDefEqProofs [gS,gB,htd,zH,hE,hE2,h0n,hwn,hB,hX3,hX4];intro _;refine jN c0 [0] (by decide) (by simp[gS,gB]) (by simp[zS,yZ,tK,zH,zF,Typ.k,Typ.id,Typ.kids]) ?_;simp -implicitDefEqProofs [gS,gB,htd,zH,h0n,hwn];refine jN d1 [0] (by decide) (by simp[gS,gB]) (by simp[htd,zH,zF]) ?_;simp -implicitDefEqProofs [gS,gB,htd,zH,h0n,hwn];refine zBq d2 [0] (by decide) (by simp[gS,gB]) (by simp[htd,zH,zF]) (by decide) (by simp) (by simp[gS]) ?_;simp -implicitDefEqProofs [gS,gB];refine zAK g [0] (by decide) (by simp[gS,gB]) (by simp[qA,zR,zF,Id.zero]) ?_;simp -implicitDefEqProofs [gS,gB];rw[hq2];exact zI [0] 0 (by decide) (by simp) (by simp) (by simp[yK,zR])
      ·clear c1 c2 sa sb okb;clear hb;clear b;clear ha;clear a;have hq3:q=zFR l t m.tick:=by rw[hq,zA8,hnone];simp only[hX];rw[if_neg (by omega),if_neg (by omega),if_neg hX4]
       rcases ht with rfl | rfl
       ·have hq2:q=yK m.tick.tick 0 (gN l m.tick 4-1) Id.zero []:=by rw[hq3,zFR]; simp
        have n1:=zBs (l:=l) m.tick 4 (by omega) (hok'.adv (zY m) (by omega));have g:=zAM (l:=l) m.tick.tick 0 (gN l m.tick 4-1) Id.zero [] (hok'.adv ((zY m).trans (zY _) (jAd _)) (by omega));obtain⟨v0,v1⟩:=zBd hl m.tick (n:=4) (by omega);have hv:=jT (gN l m.tick 4-1) (by omega);have hcs:(¬(X:Int)<2∧¬(X:Int)<3∧¬(X:Int)=3):=by omega
        rcases hcs with ⟨hB,hX3,hX4⟩<;>rcases hexit with ⟨hE,hE2⟩ | ⟨hE,hE2⟩ <;>
         (simp -implicitDefEqProofs [gS,gB,htd,zH,hE,hE2,hB,hX3,hX4,h0n]
          intro _;refine jN n1 [0] (by decide) (by simp[gS,gB]) (by simp) ?_;simp -implicitDefEqProofs [gS,gB,hv];refine jN g [0] (by decide) (by simp[gS,gB]) (by simp[zF,Id.zero]) ?_;simp -implicitDefEqProofs [gS,gB];rw[hq2];exact zI [0] 0 (by decide) (by simp) (by simp) (by simp[yK,zR]))
       ·have hq2:q=yK m.tick.tick 1 (gN l m.tick 2) Id.zero []:=by rw[hq3,zFR]; simp
        have n1:=zBs (l:=l) m.tick 2 (by omega) (hok'.adv (zY m) (by omega));have g:=zAM (l:=l) m.tick.tick 1 (gN l m.tick 2) Id.zero [] (hok'.adv ((zY m).trans (zY _) (jAd _)) (by omega));obtain⟨v0,v1⟩:=zBd hl m.tick (n:=2) (by omega);have hcs:(¬(X:Int)<2∧(X:Int)<3∧¬(X:Int)=3)∨(¬(X:Int)<2∧¬(X:Int)<3∧¬(X:Int)=3):=by omega
        rcases hcs with ⟨hB,hX3,hX4⟩ | ⟨hB,hX3,hX4⟩<;>rcases hexit with ⟨hE,hE2⟩ | ⟨hE,hE2⟩ <;>
         (simp -implicitDefEqProofs [gS,gB,htd,zH,hE,hE2,hB,hX3,hX4,h0n]
          intro _;refine jN n1 [0] (by decide) (by simp[gS,gB]) (by simp) ?_;simp -implicitDefEqProofs [gS,gB];refine jN g [0] (by decide) (by simp[gS,gB]) (by simp[zF,Id.zero]) ?_;simp -implicitDefEqProofs [gS,gB];rw[hq2];exact zI [0] 0 (by decide) (by simp) (by simp) (by simp[yK,zR]))
 exact hg _ rfl
theorem zIb (hl:∀x∈l,w64 x=x)(d:Dfn)(s:Id)(hfew:d.slots.length≤6):∀n:Nat,n≤2→zNm l d s n
 | 0,h=>zML hl d s hfew 0 h (fun n e=>by omega)
 | n+1,h=>zML hl d s hfew (n+1) h fun k e=>by
  have:k=n:=by omega
  subst this;exact⟨zIb hl d s hfew k (by omega),zIb hl d s hfew 0 (by omega)⟩
end
def qAX:K:=G [kMn 2] (Z (G [M 3 0,⟨none,.isn (some 4) false (kt 3)⟩] (Y 4 (G [kMn 2] kr) ks)) (G [kd 5 46 3 0 [] [],M 6 0,kP 7 46 3 40 5 6,M 2 7] kr))
theorem qGW:zO prog Tryz.f155.ntmps (Tryz.f155.body.getD .skip)=some qAX.erase:=by kernel_rfl
@[simp] theorem qNt:zA prog 155=true:=by kernel_rfl
def qGh:K:=G [kO 1 0,⟨none,.mov (some 2) (.const .nilFunc)⟩] (G [⟨none,.clo (some 3) 154 [] [(kt 1)]⟩,M 2 3] kr)
theorem qNg:zO prog Tryz.f118.ntmps (Tryz.f118.body.getD .skip)=some qGh.erase:=by kernel_rfl
@[simp] theorem qOo:zA prog 118=true:=by kernel_rfl
def qBc:K:=G [kO 2 0] (Z (G [L 6 1 1,kN 7 6,kQi 8 7 0 false] (Y 8 (G [L 9 2 1,⟨none,.call (some 10) (kt 9) [(.const kl)]⟩] kr) ks)) (G [L 11 1 1,L 12 1 1,kN 13 12,kBi 14 13 1 .sub,⟨none,.slc (some 15) (kt 11) 1 none (some (kt 14)) none⟩,kC 16 118 [(kt 15)]] (K.block 0 (K.rng (kt 16) [17] (K.ops [M 3 17]) (K.block 1 (G [L 18 1 1,L 19 1 1,kN 20 19,kBi 21 20 1 .sub,kX 22 18 21 1,L 23 22 1,kN 24 23,kMi 25 0] (K.block 2 (K.loop (G [kB 26 25 24 .lss] (Z (Y 26 ks (K.exit 2)) (Z (K.block 3 (G [kX 27 23 25 3,J 28 27 3,kZ 5 [ki,ki,kl],S 5 28 3] (Z (K.dops [(0,1,L 29 2 1),(1,0,M 30 3),(3,1,J 32 5 3),(4,0,kd 33 46 3 1 [ki,ki,kl] [(0,3,(kt 32))]),(2,3,kC 31 155 [(kt 30)]),(5,0,kP 34 46 3 40 31 33),(6,4,⟨none,.call (some 35) (kt 29) [(kt 34)]⟩),(7,0,kR 36 35)]) (Y 36 kr ks)))) (K.ops [kBi 37 25 1 .add,M 25 37]))))))))))))
def qOK:Nat→Option (List (Nat×Nat)):=fun r=>match r with | 8=>some [(0,1),(1,0),(3,1),(4,0),(2,3),(5,0),(6,4),(7,0)] | _=>none
theorem qHk:qF prog Tryz.f154.ntmps qOK (Tryz.f154.body.getD .skip)=some qBc.erase:=by kernel_rfl
@[simp] theorem zQ4:zA prog 154=true:=by kernel_rfl
mutual
theorem zTd:∀(v:Val) (k:Nat),(zGF v).bnd k=true
 | .mk a n l,k=>by simp only[zGF,A.bnd];exact zGU l k
theorem zGU:∀(l:List Val) (k:Nat),zAZ k (zJ l)=true
 | [],k=>by simp
 | v::l,k=>by have h:=zTd v k;rw[zOA]at h;simp only[A.bnd]at h;simp[h,zGU l k]
end
attribute [simp] zGU
def jW (l:List (List Val)):List A:=l.map fun vs=>.sl vs.length (zJ vs)
@[simp] theorem zQB (l:List (List Val)):(jW l).length=l.length:=by simp[jW]
@[simp] theorem qBL:jW []=[]:=rfl
@[simp] theorem qAg (v:List Val)(l:List (List Val)):jW (v::l)=.sl v.length (zJ v)::jW l:=rfl
@[simp] theorem zGJ (a b:List (List Val)):jW (a++b)=jW a++jW b:=by simp[jW]
theorem zEN:∀(l:List (List Val)),qE (jW l)
 | []=>qE.nil
 | v::l=>qE.sl (zBp v) (zEN l)
@[simp] theorem qAC (l:List (List Val)):qU (jW l)=jW l:=(zEN l).1
@[simp] theorem qFu {rf g}(l:List (List Val)):vwL rf g (jW l)=jW l:=(zEN l).2 _ _
@[simp] theorem zQ0:∀(l:List (List Val)) (k:Nat),zAZ k (jW l)=true
 | [],k=>by simp
 | v::l,k=>by simp[zQ0 l k]
theorem zTn:Ret prog 155 [.nil] [] .nil []:=by refine zK Tryz.func155 rfl qGW (rs:=[.slot 2]) (by kernel_rfl) ?_;unfold qAX;simp -implicitDefEqProofs;exact zB 0 (by simp)
theorem zVw (l:List Val)(h:l≠[])(hb:l.length*40≤140737488355328)(hm:l.length≤maxLen):Ret prog 155 [.sl l.length (zJ l)] [] (.row 0 l.length) [.row false 46 3 l.length (zJ l)]:=by refine zK Tryz.func155 rfl qGW (rs:=[.slot 2]) (by kernel_rfl) ?_;unfold qAX;simp -implicitDefEqProofs [h];refine⟨⟨hm,hb⟩,?_⟩;exact zI [0] 0 (by simp) (by simp) (by simp) (by simp)
theorem zIX (l:List (List Val)):Ret prog 118 [.sl l.length (jW l)] [] (.clo 154 [] [.rptr [.sl l.length (jW l)]]) []:=by refine zK Tryz.func118 rfl qNg (rs:=[.slot 2]) (by kernel_rfl) ?_;unfold qGh;simp -implicitDefEqProofs;exact zB 1 (by simp)
def zDJ (l:List Val):A:=if l=[] then .nil else .sl l.length (zJ l)
@[simp] theorem zXj:zDJ []=.nil:=rfl
theorem zNh {l:List Val}(h:l≠[]):zDJ l=.sl l.length (zJ l):=by simp[zDJ,h]
@[simp] theorem qGD (l:List Val)(k:Nat):(zDJ l).bnd k=true:=by unfold zDJ; split<;>simp
@[simp] theorem zXG (l:List Val):cellsOf (zDJ l)=some [zDJ l]:=by unfold zDJ; split<;>simp
@[simp] theorem qMq {rf g}(l:List Val):vw rf g (zDJ l)=zDJ l:=by unfold zDJ; split<;>simp
@[simp] theorem qEF (l:List Val):nrm0 (zDJ l)=.sl l.length (zJ l):=by unfold zDJ; split<;>simp_all
def zBW (acc:List (List Val))(last:List Val):List (List Val):=acc.flatMap fun h=>last.map fun x=>h++[x]
def yX (l:List (List Val)):List (List Val):=l.foldl zBW [[]]
@[simp] theorem zUq:yX []=[[]]:=rfl
theorem zHs (l:List (List Val))(last:List Val):yX (l++[last])=zBW (yX l) last:=by simp[yX]
theorem zMP:∀(l:List (List Val)) (acc:List (List Val)) (n:Nat),(∀t∈acc,t.length=n)→∀t∈l.foldl zBW acc,t.length=n+l.length
 | [],acc,n,h,t,ht=>by simpa using h t ht
 | a::l,acc,n,h,t,ht=>by
  have:=zMP l (zBW acc a) (n+1) (fun s hs=>by simp only[zBW,List.mem_flatMap,jAg]at hs;obtain⟨u,hu,x,_,rfl⟩:=hs;simp[h u hu]) t ht
  simp only[jAl];omega
theorem zUp {l:List (List Val)}{t:List Val}(h:t∈yX l):t.length=l.length:=by have:=zMP l [[]] 0 (by simp) t h;omega
theorem zC5 (acc:List (List Val))(last:List Val):(zBW acc last).length=acc.length*last.length:=by
 induction acc with
 | nil=>simp[zBW]
 | cons a acc ih =>
  have e:zBW (a::acc) last=last.map (fun x=>a++[x])++zBW acc last:=by simp[zBW]
  rw[e]; simp[ih,jBj,jCr]
theorem zU3 {acc:List (List Val)}{last:List Val}{i j:Nat}(hi:i<acc.length)(hj:j<last.length):(zBW acc last)[i*last.length+j]?=some (acc[i]++[last[j]]):=by
 induction acc generalizing i with
 | nil=>simp at hi
 | cons a acc ih =>
  have e:zBW (a::acc) last=last.map (fun x=>a++[x])++zBW acc last:=by simp[zBW]
  rw[e];cases i with
  | zero=>rw[jAc (by simpa using hj)]; simp[hj]
  | succ i =>
   have hi':i<acc.length:=by simpa using hi
   rw[jAo (by simp[jBj])];have:(i+1)*last.length+j-(last.map fun x=>a++[x]).length=i*last.length+j:=by simp[jBj]; omega
   rw[this,ih hi'];rfl
theorem zS6:∀(n:Nat) (l:List (List Val)),l.length=n→n≤1000000→zSb prog 154 [] [.rptr [.sl l.length (jW l)]] ((yX l).map fun t=>[zDJ t]):=by
 intro n;induction n with
 | zero =>
  intro l hl _;have hl0:l=[]:=jBw hl;subst hl0;refine zFV fun b m T hT hY=>?_
  simp only[zUq,jA9,jB7,jAl,jBq,zXj]at hT hY ⊢;have h0:=hT 0 (by simp);have h1:=hT 1 (by simp);refine qS Tryz.func154 rfl qHk (rs:=[]) (by kernel_rfl) ?_;unfold qBc;simp -implicitDefEqProofs [h0.1,zAe h0.1];refine zI2 h0 h1 (hY 0 (by simp)) (by simp) ?_;simp -implicitDefEqProofs;exact zNV h1 (by simp)
 | succ n ih =>
  intro l hl hn;obtain⟨l',last,rfl⟩:∃l' last,l=l'++[last]:=⟨l.dropLast,l.getLast (by intro h; simp[h]at hl),by rw[List.dropLast_concat_getLast]⟩;have hl':l'.length=n:=by simpa using hl
  refine zFV fun b m T hT hY=>?_
  have hXl:((yX (l'++[last])).map fun t=>[zDJ t]).length=(yX l').length*last.length:=by rw[jB4,zHs,zC5]
  rw[hXl]at hT ⊢;have h0:=hT 0 (jAv _);refine qS Tryz.func154 rfl qHk (rs:=[]) (by kernel_rfl) ?_;unfold qBc;have hw:IntKind.i64.wrap (l'.length:Int)=l'.length:=zXr (by simp[maxLen]; omega);have hne:¬((l'.length:Int)+1=0):=by omega
  simp -implicitDefEqProofs [h0.1,zAe h0.1,hw,hne];intro hmx;refine⟨by omega,?_⟩;refine qK (zIX l') (by simp) (by simp) ?_;simp -implicitDefEqProofs;have hCl:∀j,j≤(yX l').length*last.length→Cl (m+1) (T j++[.box [yv b]]):=fun j hj=>(hT j hj).app rfl (by simp)
  have hbd:∀i,i≤(yX l').length→i*last.length≤(yX l').length*last.length:=fun i hi=>jBc _ hi
  refine⟨[(1,.rptr [.sl (l'.length+1) (jW l'++[.sl last.length (zJ last)])]),(2,.ptr m 0),(16,.clo 154 [] [.rptr [.sl l'.length (jW l')]])],m+1,(yX l').map (fun t=>[zDJ t]),fun j=>T (j*last.length)++[.box [yv b]],154,[],
   [.rptr [.sl l'.length (jW l')]],by simp,zQ4,ih l' hl' (by omega),?_,by omega,?_,by simp,by simp,?_,?_⟩
  ·simp only[Nat.zero_mul];exact zI5 (τ:=[]) (by simp) (by simp[h0.1]) (by simp) (by simp[h0.1]) (by rw[(hCl 0 (jAv _)).1]; exact(hCl 0 (jAv _)).2)
  ·intro i hi;exact hCl _ (hbd i (by simpa using hi))
  ·intro i hi b' M r r';simp only[jB4]at hi;have hd:(jW l'++[A.sl last.length (zJ last)]).drop l'.length=[A.sl last.length (zJ last)]:=by rw[←zQB l']; simp
   simp -implicitDefEqProofs [hw,hd];intro _;refine⟨by omega,?_⟩;intro hlm;have hCl2:∀j r,i*last.length+j≤(yX l').length*last.length→Cl (m+2) (T (i*last.length+j)++[.box [yv b],AObj.lp b' r M
    [(1,A.rptr [A.sl (l'.length+1) (jW l'++[A.sl last.length (zJ last)])]),(2,A.ptr m 0),
     (16,A.clo 154 [] [A.rptr [A.sl l'.length (jW l')]])]]):=fun j r hj=>(hT _ hj).app rfl (by simp)
   have hij:∀j,j≤last.length→i*last.length+j≤(yX l').length*last.length:=fun j hj=>by have:=jBc last.length (Nat.succ_le_of_lt hi);rw[jBj]at this;omega
   have hTi:(T (i*last.length)).length=m:=(hT _ (hij 0 (jAv _))).1;refine jX (S:=Nat) (fun j=>[(2,.ptr m 0),(3,zDJ (yX l')[i]),(23,.sl last.length (zJ last)),(24,int last.length),(25,int j)]) (fun j=>T (i*last.length+j)++[.box [yv b],AObj.lp b' r' M
    [(1,A.rptr [A.sl (l'.length+1) (jW l'++[A.sl last.length (zJ last)])]),(2,A.ptr m 0),
     (16,A.clo 154 [] [A.rptr [A.sl l'.length (jW l')]])]]) (fun j=>j≤last.length) (fun j=>last.length-j) 0 (by simp)
    (zI5 (τ:=[]) (by simp) (by simp[hTi]) (by simp) (by simp[hTi]) (by rw[(hCl2 0 r' (hij 0 (jAv _))).1]; exact(hCl2 0 r' (hij 0 (jAv _))).2)) ?_
   intro j hj;simp -implicitDefEqProofs;refine qT (fun h=>?_) (fun h=>?_)<;>simp at h
   ·have hTj:=hT _ (hij j hj);simp -implicitDefEqProofs [h,qY h,hTj.1,zAe hTj.1,yV hTj.1,zAB hTj.1,zIk hTj.1,zH5];have hgl:i*last.length+j<(zBW (yX l') last).length:=by rw[zC5];have:=hij (j+1) h;omega
    have hge:(zBW (yX l') last)[i*last.length+j]=(yX l')[i]++[last[j]]:=by
     have:=zU3 hi h;rw[jA2 hgl]at this
     simpa using this
    have hTj1:=hT (i*last.length+(j+1)) (hij (j+1) h);have hyj:zCp prog b [.sl ((yX l')[i].length+1) (zJ ((yX l')[i]++[last[j]]))] (T (i*last.length+j)) fun o τ=>o=.ret (.lit (.bool true))∧τ = T (i*last.length+(j+1)):=by
     have:=hY (i*last.length+j) (by simpa [zHs] using hgl);simp only[zHs,jBk,hge]at this;rw[zNh (by simp)]at this
     simpa [jBi] using this
    have hlen:(yX l')[i].length=n:=by rw[zUp (jA3 hi),hl']
    by_cases hh:(yX l')[i]=[]
    ·refine zNw zTn (by simp[hh]) ?_;simp -implicitDefEqProofs [hTj.1,zAe hTj.1,yV hTj.1,zAB hTj.1,zIk hTj.1];refine⟨by simp[maxLen],?_⟩;simp only[hh,jBq,jAr,jC8,zDO,zKk]at hyj;refine exY (k:=3) rfl hTj hTj1 (by simp) hyj ?_;simp -implicitDefEqProofs;refine zU (j+1) h (by omega) (zI5 (τ:=[.box (zC last[j]),.row true 46 3 1 (zC last[j])]) (by simp[zC]) (by simp[hTj1.1]) (by simp[hh,qO h hlm]) (by simp[hTj1.1]) (by rw[(hCl2 (j+1) r' (hij (j+1) h)).1]; exact(hCl2 (j+1) r' (hij (j+1) h)).2))
    ·refine zNw (zVw _ hh (by omega) (by simp[maxLen]; omega)) (by simp[zNh hh]) ?_;simp -implicitDefEqProofs [hTj.1,zAe hTj.1,yV hTj.1,zAB hTj.1,zIk hTj.1];refine⟨by simp[maxLen]; omega,?_⟩;simp only[zAT,zDO,zKk]at hyj;refine exY (k:=3) rfl hTj hTj1 (by simp) hyj ?_;simp -implicitDefEqProofs;refine zU (j+1) h (by omega) (zI5 (τ:=[.box (zC last[j]),.row true 46 3 ((yX l')[i].length+1) (zJ (yX l')[i]++zC last[j])]) (by simp[zC]) (by simp[hTj1.1]) (by simp[qO h hlm]) (by simp[hTj1.1]) (by rw[(hCl2 (j+1) r' (hij (j+1) h)).1]; exact(hCl2 (j+1) r' (hij (j+1) h)).2))
   ·have:j=last.length:=by omega
    subst this;simp -implicitDefEqProofs;exact Wk.here (by rw[jBj])
  ·simp -implicitDefEqProofs;exact zNV (hT _ (jA _)) (by simp)
@[simp] theorem zVa:∀(X:List (List Val)) (k:Nat),zAZ k (X.map zDJ)=true
 | [],k=>rfl
 | t::X,k=>by simp[zVa X k]
@[simp] theorem zZe {rf g}:∀(X:List (List Val)),vwL rf g (X.map zDJ)=X.map zDJ
 | []=>by simp
 | t::X=>by simp[zZe X]
@[simp] theorem qKA:zA prog 55=true:=by kernel_rfl
def qP3 (out R:List (List Id))(x:Id)(k:Nat):List (List Id):=out++(R.take k).map (x::·)
theorem zMi {L:List Edg}{to:Id}:∀(n:Nat) (at_:Id) (met:List Id),∀q∈zAy L to n at_ met,q.length≤n
 | 0,at_,met,q,h=>by
  unfold zAy at h;split at h
  ·simp at h; simp[h]
  ·cases h
 | n+1,at_,met,q,h=>by
  unfold zAy at h;split at h
  ·simp at h; simp[h]
  ·rw[List.mem_flatMap]at h;obtain⟨e,_,h⟩:=h;split at h
   ·rw[jAg]at h;obtain⟨q',h',rfl⟩:=h;have:=zMi n e.to (met++[e.to]) q' h';simp; omega
   ·cases h
@[simp] theorem qOb:zA prog 21=true:=by kernel_rfl
end Go.Proofs.YtdnelmeboihpkaaGreatDoor
