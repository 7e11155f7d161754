/-
  trace: nodes.
  The reference's tracer: lists of nodes, bodies.
  trace.Call.
-/
import Derived.Test.YthglhccibdlccaaGreatDoorX44
import Derived.Test.YthglhccibdlccaaGreatDoorX41
import Derived.Test.YthglhccibdlccaaGreatDoorX28
import Derived.Test.YthglhccibdlccaaGreatDoorX22
set_option linter.unusedVariables false
set_option linter.unusedSimpArgs false
namespace Go.Proofs.YthglhccibdlccaaGreatDoor
open Go.Abs
section
variable {p:Prg}{c:Nat}{m:Int}{ev:Evl}{e:Exp}{V:List EVar}{s:XS}
theorem zRS (hk:e.k=0):zQ3 p e V s (.mk 0 e.n [],s):=by have hP:=eP p;refine zJ Tryz.func129 rfl zUY (rs:=[.cell 6 3 true]) (by kernel_rfl) ?_;unfold zSD;simp[tE,tS,hP,zH,hk];exact zF [0,1,2,3,4,5,6] 0 (by decide) (by simp) (by simp) (by simp[zI,zU,zO,zG])
theorem zPh (hk:e.k=1):zQ3 p e V s (.mk 1 e.n [],s):=by have hP:=eP p;refine zJ Tryz.func129 rfl zUY (rs:=[.cell 6 3 true]) (by kernel_rfl) ?_;unfold zSD;simp[tE,tS,hP,zH,hk];exact zF [0,1,2,3,4,5,6] 0 (by decide) (by simp) (by simp) (by simp[zI,zU,zO,zG])
theorem zSQ {v:Val}(hk:e.k=2)(hf:zA7 [e.ref.a,e.ref.b,e.ref.c,e.n] (zD6 V)=some (.agg [.lit (.int .i64 v.k),.lit (.int .i64 v.n),.sl v.kids.length (zZ v.kids)])):zQ3 p e V s (v,s):=by have hP:=eP p;refine zJ Tryz.func129 rfl zUY (rs:=[.cell 6 3 true]) (by kernel_rfl) ?_;unfold zSD;simp[tE,tS,hP,zH,hk,hf];exact zF [0,1,2,3,4,5,6] 0 (by decide) (by simp) (by simp) (by simp[zI])
theorem zFo (hk:e.k=5∨e.k=6∨e.k=8∨e.k=10∨e.k=12)(hb:zH3 p ev e V s):zQ3 p e V s (qG ev e V s):=by have hP:=eP p;unfold zH3 at hb;generalize qG ev e V s=r at hb;refine zJ Tryz.func129 rfl zUY (rs:=[.cell 6 3 true]) (by kernel_rfl) ?_;unfold zSD;rcases hk with hk | hk | hk | hk | hk<;>simp[tE,tS,hP,zH,hk]<;>refine zM hb [0,1,2,3,4,5,6] (by decide) (by simp[tE,tS,hP]) (by simp[zH,hk]) ?_<;>simp[tE,tS,hP,zI]<;>exact zF [0,1,2,3,4,5,6] 0 (by decide) (by simp) (by simp) (by simp[zI])
def zPX (p:Prg):Prop:=∀d∈p.defs,d.slots.length≤6∧d.slots.Pairwise fun a b=>a.id≠b.id
theorem zFE {ss:List Slt}(hnd:ss.Pairwise fun a b=>a.id≠b.id)(vs:List Val)(hl:vs.length=ss.length):NdV (yV ss vs):=by
 unfold NdV;rw[List.pairwise_iff_getElem];intro i j hi hj hij e;have hi':i<ss.length:=by rw[zHs ss vs hl]at hi; exact hi
 have hj':j<ss.length:=by rw[zHs ss vs hl]at hj; exact hj
 have:=List.pairwise_iff_getElem.1 hnd i j hi' hj' hij;have e1:(yV ss vs)[i].id=ss[i].id:=by simp[yV]
 have e2:(yV ss vs)[j].id=ss[j].id:=by simp[yV]
 exact this (by rw[←e1,←e2]; exact e.1)
theorem zSv (hp:zMS p)(hsl:zPX p)(h:Ih p c m ev)(hc:c≤100000){B:List Bnd}{t:Typ}(he:WE p B e t)(hV:EnvT p B V)(hN:NdV V)(hB:Bd c m s):zQ3 p e V s (qB p 1 ev e V s):=by
 cases he with
 | int _ i n r u ns h1 h2=>exact zRS rfl
 | bool _ i n r u ns h1=>exact zPh rfl
 | var _ i n r u ns _ hl=>exact zSQ (e:=.mk i 2 n r u [] ns) rfl (hV.get hN hl)
 | call _ i n r u ks ns hn d hd hk hl hw =>
  have e1:qB p 1 ev (.mk i 3 n r u ks ns) V s=zAl ev d (qN ev V ks s).1 (qN ev V ks s).2:=by simp[qB,dfn,hd]
  rw[e1];have hB1:=zDD h.bd V ks s hB;have hdm:=(zAz hd).1;refine zDw h (.inl rfl) hn (fun k hk s=>?_) hB ?_
  ·obtain⟨j,hj,rfl⟩:=List.getElem_of_mem hk;exact .of (hw j hj) hV hN
  ·simp only[Exp.kids_mk];by_cases hf:(qN ev V ks s).2.fail=0
   ·obtain⟨ht,hz⟩:=zCz h.stop h.snd hV ks _ s hl hw hf;have hlen:=ht.len;rw[List.length_map]at hlen;exact zRJ hf rfl hd (zQG h hc d _ (fun _=>hlen) (hsl d hdm).2 (hsl d hdm).1 (fun _ _=>⟨_,_,hp r d hd (by simp[zCn,hk]),EnvT.args ht hz,zFE (hsl d hdm).2 _ hlen⟩) hB1)
   ·have e2:zAl ev d (qN ev V ks s).1 (qN ev V ks s).2=(vz,(qN ev V ks s).2):=by unfold zAl; rw[if_pos hf]
    rw[e2];exact zEp hf
 | op _ i n r u ks ns hn ts _ ho hl hw =>
  have e1:qB p 1 ev (.mk i 4 n r u ks ns) V s=(zf true (qN ev V ks s).2 (opV n (qN ev V ks s).1),(qN ev V ks s).2):=by simp[qB]
  rw[e1];refine zDw h (.inr (.inl rfl)) hn (fun k hk s=>?_) hB ?_
  ·obtain⟨j,hj,rfl⟩:=List.getElem_of_mem hk;exact .of (hw j hj) hV hN
  ·simp only[Exp.kids_mk];by_cases hf:(qN ev V ks s).2.fail=0
   ·obtain⟨ht,hz⟩:=zCz h.stop h.snd hV ks _ s hl hw hf;rw[zEe hf];exact zW4 (e:=.mk i 4 n r u ks ns) hf rfl ho ht hz
   ·have e2:zf true (qN ev V ks s).2 (opV n (qN ev V ks s).1)=vz:=by simp[zf,hf]
    rw[e2];exact zEp hf
 | record _ i n r u ks ns hn d hd hk hl hw =>
  have e1:qB p 1 ev (.mk i 7 n r u ks ns) V s=(zf true (qN ev V ks s).2 (.mk 2 0 (qN ev V ks s).1),(qN ev V ks s).2):=by simp[qB]
  rw[e1];refine zDw h (.inr (.inr (.inl rfl))) hn (fun k hk s=>?_) hB ?_
  ·obtain⟨j,hj,rfl⟩:=List.getElem_of_mem hk;exact .of (hw j hj) hV hN
  ·simp only[Exp.kids_mk];by_cases hf:(qN ev V ks s).2.fail=0
   ·rw[zEe hf]; exact zVZ hf rfl
   ·have e2:∀v,zf true (qN ev V ks s).2 v=vz:=fun v=>by simp[zf,hf]
    rw[e2];exact zEp hf
 | case _ i r u a ns d j hd hk hj ha =>
  have e1:qB p 1 ev (.mk i 9 j r u [a] ns) V s=(zf true (qN ev V [a] s).2 (.mk 3 j (qN ev V [a] s).1),(qN ev V [a] s).2):=by simp[qB]
  rw[e1];refine zDw h (.inr (.inr (.inr (.inl rfl)))) (by simp) (fun k hk s=>?_) hB ?_
  ·simp only[Exp.kids_mk,List.mem_singleton]at hk;subst hk;exact .of ha hV hN
  ·simp only[Exp.kids_mk];by_cases hf:(qN ev V [a] s).2.fail=0
   ·rw[zEe hf]; exact zTk (e:=.mk i 9 j r u [a] ns) hf rfl
   ·have e2:∀v,zf true (qN ev V [a] s).2 v=vz:=fun v=>by simp[zf,hf]
    rw[e2];exact zEp hf
 | list _ i n r u ks ns t hn hw =>
  have e1:qB p 1 ev (.mk i 11 n r u ks ns) V s=(zf true (qN ev V ks s).2 (.mk 4 0 (qN ev V ks s).1),(qN ev V ks s).2):=by simp[qB]
  rw[e1];refine zDw h (.inr (.inr (.inr (.inr rfl)))) hn (fun k hk s=>?_) hB ?_
  ·obtain⟨j,hj,rfl⟩:=List.getElem_of_mem hk;exact .of (hw j hj) hV hN
  ·simp only[Exp.kids_mk];by_cases hf:(qN ev V ks s).2.fail=0
   ·rw[zEe hf]; exact zTl hf rfl
   ·have e2:∀v,zf true (qN ev V ks s).2 v=vz:=fun v=>by simp[zf,hf]
    rw[e2];exact zEp hf
 | ite _ i n r u a b c ns _ ha hb hc =>
  have e1:qB p 1 ev (.mk i 5 n r u [a,b,c] ns) V s=qG ev (.mk i 5 n r u [a,b,c] ns) V s:=by simp[qB]
  rw[e1];exact zFo (.inl rfl) (zPB h rfl rfl ha hb hc hV hN hB.bn)
 | lets _ i n r u a b ns v _ hfr ha hb =>
  have e1:qB p 1 ev (.mk i 6 n r u [a,b] ns) V s=qG ev (.mk i 6 n r u [a,b] ns) V s:=by simp[qB]
  rw[e1];exact zFo (.inr (.inl rfl)) (zQt h rfl rfl hfr ha hb hV hN hB.bn)
 | field _ i r u a ns d j hd hk hj ha =>
  have e1:qB p 1 ev (.mk i 8 j r u [a] ns) V s=qG ev (.mk i 8 j r u [a] ns) V s:=by simp[qB]
  rw[e1];exact zFo (.inr (.inr (.inl rfl))) (zME h rfl rfl rfl hd hk hj ha hV hN hB.bn)
 | mtch _ i n r u a ks ns d _ hfr hd hk hl ha hw =>
  have e1:qB p 1 ev (.mk i 10 n r u (a::ks) ns) V s=qG ev (.mk i 10 n r u (a::ks) ns) V s:=by simp[qB]
  rw[e1];exact zFo (.inr (.inr (.inr (.inl rfl)))) (zMj h rfl rfl hfr hd hk hl (by have:=(hsl d (zAz hd).1).1; omega) ha hw hV hN hB.bn)
 | fold _ i n r u l s' b ns v _ hfr hl' hs' hb =>
  have e1:qB p 1 ev (.mk i 12 n r u [l,s',b] ns) V s=qG ev (.mk i 12 n r u [l,s',b] ns) V s:=by simp[qB]
  rw[e1];exact zFo (.inr (.inr (.inr (.inr rfl)))) (zNH h rfl rfl hfr hl' hs' hb hV hN hB.bn)
def zWA:K:=G [kO 4 1,kZ 6 [ki,ki,kl]] (Z (G [M 8 0,kU 9 8,D 10 9 3,L 11 10 1,kQi 12 11 0 true] (Y 12 (G [kb 13 [ki,ki,kl] [],S 6 13 3] kr) ks)) (Z (G [M 14 0,kU 15 14,D 16 15 2,L 17 16 1,kBi 18 17 0 .leq] (Y 18 (G [M 19 0,kU 20 19,D 21 20 3,⟨none,.st none (kt 21) (kc 18) 1⟩] (G [kb 22 [ki,ki,kl] [],S 6 22 3] kr)) ks)) (G [M 23 0,kU 24 23,D 25 24 2,L 26 25 1,kBi 27 26 1 .sub,kU 28 23,D 29 28 2,S 29 27 1] (Z (K.dops [(0,0,M 30 0),(1,0,kU 31 30),(2,0,D 32 31 4),(3,0,L 33 32 1),(4,0,D 34 4 0),(5,0,J 35 34 3),(6,4,⟨none,.call (some 36) (kt 33) [(.const (.bool false)),(kt 35)]⟩)]) (G [M 37 0,J 38 4 15,M 39 2,kC 40 129 [(kt 37),(kt 38),(kt 39)],kZ 7 [ki,ki,kl],S 7 40 3] (Z (G [M 41 0,kU 42 41,D 43 42 3,L 44 43 1,kQi 45 44 0 false,M 46 45,T 46 true (J 47 7 3),T 46 true (kC 48 130 [(kt 47)]),T 46 true (kBi 49 48 256 .gtr),T 46 true (M 50 49),T 50 false (J 51 7 3),T 50 false (kC 52 131 [(kt 51)]),T 50 false (kBi 53 52 24 .gtr),T 46 true (kPt 54 50 53),kPf 55 46 54] (Y 55 (K.ops [M 56 0,kU 57 56,D 58 57 3,⟨none,.st none (kt 58) (kc 4) 1⟩]) ks)) (G [J 59 7 3,S 6 59 3] kr)))))))
def qO1:Nat→Option (List (Nat×Nat)):=fun r=>match r with | 7=>some [(0,0),(1,0),(2,0),(3,0),(4,0),(5,0),(6,4)] | _=>none
theorem qAC:qJ Tryz.prog Tryz.f93.ntmps qO1 (Tryz.f93.body.getD .skip)=some zWA.erase:=by kernel_rfl
@[simp] theorem qN7:zC Tryz.prog 93=true:=by kernel_rfl
theorem zNs (hf:s.fail≠0):TOk p (vz,s) e V s:=by have hP:=eP p;refine zJ Tryz.func93 rfl qAC (rs:=[.cell 6 3 true]) (by kernel_rfl) ?_;unfold zWA;simp[tE,tS,hP,zH,hf];exact zF [0,1,2,3,4,5,6] 0 (by decide) (by simp) (by simp) (by simp[zI,zU,zO,zG])
theorem zOK (hf:s.fail=0)(hu:s.fuel≤0):TOk p (vz,{s with fail:=zKw}) e V s:=by have hP:=eP p;refine zJ Tryz.func93 rfl qAC (rs:=[.cell 6 3 true]) (by kernel_rfl) ?_;unfold zWA;simp[tE,tS,hP,zH,hf,hu];exact zF [0,1,2,3,4,5,6] 0 (by decide) (by simp) (by simp) (by simp[zI,zU,zO,zG])
set_option maxHeartbeats 1000000 in
theorem zXi {r:Val×XS}(hc:c≤100000)(hf:s.fail=0)(hu:¬s.fuel≤0)(hB:Bn c m s)(hv:zQ3 p e V (zEg e s) r):TOk p (zCO 1 r) e V s:=by
 have hP:=eP p;have hw:IntKind.i64.wrap (s.fuel-1)=s.fuel-1:=IntWalk.i64_in _ (by have:=hB.ns; omega);have b1:=hB.ns;have b2:=hB.ds;have b3:=zMC s.ns;have hn:=zMr false e.id s.ds (ddL s.ns) (by omega) (by omega);simp only[Bool.false_eq_true,if_false,←zKL]at hn;have ht:zEg e s=⟨s.fuel-1,s.fail,s.ds,s.ns++[e.id]⟩:=rfl;rw[ht,hf]at hv;have he:zCO 1 r=(r.1,zB4 r):=by simp[zCO,zf]
 rw[he];refine zJ Tryz.func93 rfl qAC (rs:=[.cell 6 3 true]) (by kernel_rfl) ?_;unfold zWA;simp[tE,tS,hP,zH,hf,hu,hw];refine yT hn [1,2,3,4,5] (by decide) (by simp[nS]) (by simp[qL]) ?_;simp[nS];refine zM hv [0,1,2,3,4,5,6] (by decide) (by simp[tE,tS,hP]) (by simp[zH]) ?_;simp[tE,tS,hP,zI];by_cases h0:r.2.fail=0
 ·simp[h0];refine zR (zRd r.1) (by simp[zI]) (by simp) ?_;by_cases h1:256<zDe r.1
  ·have hl:zB4 r={r.2 with fail:=zAC}:=by unfold zB4; rw[if_pos ⟨h0,.inl h1⟩]
   simp[h1];exact zF [0,1,2,3,4,5,6] 0 (by decide) (by simp) (by simp[hl,zAC]) (by simp[zI])
  ·simp[h1];refine zR (zRl r.1) (by simp[zI]) (by simp) ?_;by_cases h2:24<zBO r.1
   ·have hl:zB4 r={r.2 with fail:=zAC}:=by unfold zB4; rw[if_pos ⟨h0,.inr h2⟩]
    simp[h2];exact zF [0,1,2,3,4,5,6] 0 (by decide) (by simp) (by simp[hl,zAC]) (by simp[zI])
   ·have hl:zB4 r=r.2:=by unfold zB4; rw[if_neg fun h=>h.2.elim h1 h2]
    simp[h2];exact zF [0,1,2,3,4,5,6] 0 (by decide) (by simp) (by simp[hl,h0]) (by simp[zI])
 ·have hl:zB4 r=r.2:=by unfold zB4; rw[if_neg fun h=>h0 h.1]
  simp[h0];exact zF [0,1,2,3,4,5,6] 0 (by decide) (by simp) (by simp[hl]) (by simp[zI])
theorem zOh (hp:zMS p)(hsl:zPX p)(hc:c≤100000):∀n:Nat,Ih p c n (zAq p 1 n)
 | 0=>⟨zBk p 1 0,zDv hp 1 0,zDz 1 0,fun e V s hA hB=>by
  rw[zAq];have hu:=hB.fu;split
  ·rename_i hf; exact zNs hf
  ·rename_i hf; exact zOK (by omega) (by omega)⟩
 | n+1=>⟨zBk p 1 (n+1),zDv hp 1 (n+1),zDz 1 (n+1),fun e V s hA hB=>by
  rw[zAq];split
  ·rename_i hf; exact zNs hf
  ·rename_i hf;have hf:s.fail=0:=by omega
   split
   ·rename_i hu; exact zOK hf hu
   ·rename_i hu;obtain⟨B,t,he,hV,hN⟩:=hA hf;have ht:=hB.tick e hu;have:((n+1:Nat):Int)-1=n:=by omega
    rw[this]at ht;exact zXi hc hf hu hB (zSv hp hsl (zOh hp hsl hc n) hc he hV hN ht)⟩
end
theorem zLC (l:List Id)(x:Id):zBj (l++[x])=zBR (zBj l) x:=by rw[zFK,zFK,List.foldl_append]; rfl
theorem zOA (l:List Id):(zBj l).length≤l.length:=by
 rw[zFK];have:=zQX l []
 simpa using this
def xS (p:Prg)(s:XS):St:=[.box (zQ p++[int s.fuel,int s.fail,.sl (zBj s.ds).length (zX (zBj s.ds)),.sl (zBj s.ns).length (zX (zBj s.ns))])]
abbrev XOk (p:Prg)(r:Val×XS)(e:Exp)(V:List EVar)(s:XS):Prop:=Ret Tryz.prog 102 [.ptr 0 0,.agg (zH e),.sl V.length (jQ V)] (xS p s) (.agg (zI r.1)) (xS p r.2)
structure XIh (p:Prg)(c:Nat)(m:Int)(ev:Evl):Prop where
 stop:zFb ev
 snd:Snd p ev
 bd:∀e V s,Bn c m s→Bd c m (ev e V s).2
 ok:∀e V s,Adm p e V s→Bn c m s→V.length+2*m≤100000→XOk p (ev e V s) e V s
@[simp] theorem qNr:zC Tryz.prog 102=true:=by kernel_rfl
@[simp] theorem qNO:zC Tryz.prog 138=true:=by kernel_rfl
@[simp] theorem qNH:zC Tryz.prog 51=true:=by kernel_rfl
section
variable {p:Prg}{c:Nat}{m:Int}{ev:Evl}{e:Exp}{V:List EVar}{s:XS}
def qJo:K:=G [kMn 6] (G [kMn 7] (Z (G [kMi 8 0] (K.block 0 (K.loop (Z (G [M 9 8,M 10 1,kN 11 10,kB 12 9 11 .lss] (Y 12 ks (K.exit 0))) (Z (K.block 1 (K.ops [M 15 7,M 16 0,M 17 1,M 18 8,kX 19 17 18 15,J 20 19 15,M 21 2,kC 22 102 [(kt 16),(kt 20),(kt 21)],kd 23 47 3 1 [ki,ki,kl] [(0,3,(kt 22))],kP 24 47 3 40 15 23,M 7 24])) (K.ops [M 13 8,kBi 14 13 1 .add,M 8 14])))))) (G [M 25 7,M 6 25] kr)))
theorem qL6:zN Tryz.prog Tryz.f160.ntmps (Tryz.f160.body.getD .skip)=some qJo.erase:=by kernel_rfl
@[simp] theorem qNX:zC Tryz.prog 160=true:=by kernel_rfl
set_option maxHeartbeats 1000000 in
theorem zHr (h:XIh p c m ev)(ks:List Exp)(hk6:ks.length≤32768)(hA:∀k∈ks,∀s,Adm p k V s)(hB:Bd c m s)(hV:V.length+2*m≤100000) :
 Ret Tryz.prog 160 [.ptr 0 0,.sl ks.length (qR ks),.sl V.length (jQ V)] (xS p s) (.sl (qN ev V ks s).1.length (zZ (qN ev V ks s).1)) (xS p (qN ev V ks s).2):=by
 have hP:=eP p;refine zK Tryz.func160 rfl qL6 (rs:=[.slot 6]) (by kernel_rfl) ?_;unfold qJo;have hst:∀i,Bd c m (qN ev V (ks.take i) s).2:=fun i=>zDD h.bd V _ _ hB
 have hln:∀i,i≤ks.length→(qN ev V (ks.take i) s).1.length=i:=fun i hi=>by rw[zCQ,List.length_take]; omega
 have h00:qN ev V [] s=([],s):=rfl;simp[xS,hP];refine qP (S:=Nat) (fun i=>[(0,.ptr 0 0),(1,.sl ks.length (qR ks)),(2,.sl V.length (jQ V)),(7,.row 1 i),(8,int i)])
  (fun i=>xS p (qN ev V (ks.take i) s).2++[.row false 47 3 i (zZ (qN ev V (ks.take i) s).1)]) (fun i=>i≤ks.length) (fun i=>ks.length-i) 0 (by simp)
  ((jZ (t:=7) (by simp) 47 3).trans (zV [0,1] 0 (by decide) (by simp) (by simp[xS,hP,h00]) (by simp))) ?_
 intro i hi;by_cases hil:i<ks.length
 ·have hr:=h.ok ks[i] V (qN ev V (ks.take i) s).2 (hA _ (List.getElem_mem hil) _) (hst i).bn hV;have hsn:=zFD ev V ks[i] (ks.take i) s;rw[←List.take_succ_eq_append_getElem hil]at hsn;have hdr:=yE hil;have hln:=hln i hi;have hw:IntKind.i64.wrap ((i:Int)+1)=(i:Int)+1:=IntWalk.i64_in _ (by omega);generalize hFn:qN ev V (ks.take (i+1)) s=Fn at hsn;subst hsn;generalize hFi:qN ev V (ks.take i) s=Fi at *
  obtain⟨vs,si⟩:=Fi;simp only at *
  generalize ev ks[i] V si=rk at *
  obtain⟨v,sk⟩:=rk;simp only at *
  simp[xS,hP,hil,hdr,hFi,zH];intro _;refine zM hr [0] (by decide) (by simp[xS,hP]) (by simp[zH]) ?_;simp[xS,hP,zI];refine⟨⟨by simp[maxLen]; omega,by omega⟩,?_⟩;exact zW (i+1) hil (by omega) (zV [0,1] 0 (by decide) (by simp) (by simp[xS,hP,hFn,zAN]) (by simp[hw]))
 ·have hil:i=ks.length:=by omega
  subst hil;have htk:ks.take ks.length=ks:=List.take_length;have hln:=hln _ (Nat.le_refl _);rw[htk]at hln ⊢;generalize qN ev V ks s=F at *
  obtain⟨vs,si⟩:=F;simp only at *
  simp[xS,hP];exact fun _=>zF [0] 1 (by decide) (by simp) (by simp) (by simp[hln])
def qBK:K:=G [kO 4 1,kZ 6 [ki,ki,kl]] (Z (G [M 9 0,kU 10 9,D 11 10 3,L 12 11 1,kQi 13 12 0 true] (Y 13 (G [kb 14 [ki,ki,kl] [],S 6 14 3] kr) ks)) (Z (K.dops [(0,0,M 15 0),(1,0,M 16 0),(2,0,kU 17 16),(3,0,D 18 17 4),(4,0,D 19 18 0),(5,0,L 20 19 1),(6,0,D 21 4 0),(7,0,J 22 21 3),(8,0,kC 23 61 [(kt 20),(kt 22)]),(9,0,kU 24 15),(10,0,D 25 24 4),(11,0,D 26 25 0),(12,0,S 26 23 1)]) (G [kMn 7] (Z (G [kMi 8 0] (K.block 0 (K.loop (Z (G [M 27 8,D 28 4 8,L 29 28 1,kN 30 29,kB 31 27 30 .lss,M 32 31,T 32 true (M 33 8),T 32 true (M 34 2),T 32 true (kN 35 34),T 32 true (kB 36 33 35 .lss),kPf 37 32 36] (Y 37 ks (K.exit 0))) (Z (K.block 1 (K.dops [(0,0,M 40 7),(1,0,D 41 4 8),(2,0,L 42 41 1),(3,0,M 43 8),(4,0,kX 44 42 43 11),(5,0,D 45 44 0),(6,0,J 46 45 3),(7,0,M 47 2),(8,0,M 48 8),(9,0,kX 49 47 48 3),(10,0,J 50 49 3),(11,0,kC 51 101 [(kt 40),(kt 46),(kc 0),(kt 50)]),(12,0,M 7 51)])) (K.ops [M 38 8,kBi 39 38 1 .add,M 8 39])))))) (G [M 52 0,D 53 4 14,J 54 53 15,M 55 7,kC 56 102 [(kt 52),(kt 54),(kt 55)],S 6 56 3] kr)))))
theorem qHr:zN Tryz.prog Tryz.f51.ntmps (Tryz.f51.body.getD .skip)=some qBK.erase:=by kernel_rfl
@[simp] theorem qLD:zC Tryz.prog 51=true:=by kernel_rfl
set_option maxHeartbeats 1000000 in
theorem zOT (h:XIh p c m ev)(hc:c≤100000)(d:Dfn)(vs:List Val)(hvl:vs.length≤1000000)(hd6:d.slots.length≤6)
 (hA:s.fail=0→Adm p d.body (yV d.slots vs) {s with ds:=s.ds++[d.id]})(hm:6+2*m≤100000)(hB:Bd c m s) :
 Ret Tryz.prog 51 [.ptr 0 0,.agg (zP d),.sl vs.length (zZ vs)] (xS p s) (.agg (zI (zAl ev d vs s).1)) (xS p (zAl ev d vs s).2):=by
 have hP:=eP p;have hel:(yV d.slots vs).length≤d.slots.length:=by simp[yV]; omega
 have hlen:(yV d.slots vs).length=min d.slots.length vs.length:=by simp[yV]
 by_cases hf:s.fail=0
 rotate_left
 ·have hx:zAl ev d vs s=(vz,s):=by unfold zAl; rw[if_pos hf]
  rw[hx];refine zK Tryz.func51 rfl qHr (rs:=[.cell 6 3 true]) (by kernel_rfl) ?_;unfold qBK;simp[xS,hP,zP,hf];exact zF [0] 0 (by decide) (by simp) (by simp) (by simp[zI,zU,zO,zG])
 have hx:zAl ev d vs s=ev d.body (yV d.slots vs) {s with ds:=s.ds++[d.id]}:=by unfold zAl; rw[if_neg (by simp[hf])]
 rw[hx];have hb1:=hB.ds;have hl1:=zOA s.ds;have hins:=zIo (zBj s.ds) d.id (by omega);rw[←zLC]at hins;have he:=h.ok _ _ _ (hA hf) (hB.def d.id hf) (by omega);generalize ev d.body (yV d.slots vs) {s with ds:=s.ds++[d.id]}=r at *
 refine zK Tryz.func51 rfl qHr (rs:=[.cell 6 3 true]) (by kernel_rfl) ?_;unfold qBK;simp[xS,hP,zP,hf];refine qI hins (by simp[qL]) (by simp) ?_;simp;have h0:jQ []=[]:=rfl;refine qP (S:=Nat) (fun i=>[(0,.ptr 0 0),(2,.sl vs.length (zZ vs)),(4,.ptr 1 0),(6,.ptr 2 0),(7,.sl i (jQ ((yV d.slots vs).take i))),(8,int i)])
  (fun i=>xS p {s with ds:=s.ds++[d.id]}++[.box (zP d),.box [int 0,int 0,.nil]]) (fun i=>i≤(yV d.slots vs).length) (fun i=>(yV d.slots vs).length-i) 0 (by simp)
  (zV [0,1,2] 0 (by decide) (by simp) (by simp[xS,hP,zP,hf]) (by simp[h0])) ?_
 intro i hi;have hw:IntKind.i64.wrap ((i:Int)+1)=(i:Int)+1:=IntWalk.i64_in _ (by omega);by_cases hil:i<(yV d.slots vs).length
 ·have his:i<d.slots.length:=by omega
  have hiv:i<vs.length:=by omega
  have hdr:=qZ his;have hdv:=qY hiv;have htk:(yV d.slots vs).take (i+1)=(yV d.slots vs).take i++[⟨d.slots[i].id,0,vs[i]⟩]:=by rw[List.take_succ_eq_append_getElem hil];simp[yV]
  have hwi:=zBT ((yV d.slots vs).take i) ⟨d.slots[i].id,0,vs[i]⟩ (by simp; omega);rw[←htk,List.length_take,Nat.min_eq_left hi]at hwi;simp[xS,hP,zP,his,hiv,hdr,hdv,yZ]
  intros
  refine qI hwi (by simp[qL,zI]) (by simp) ?_;simp;exact zW (i+1) hil (by omega) (zV [0,1,2] 0 (by decide) (by simp) (by simp[xS,hP,zP]) (by simp[hw]))
 ·have hie:i=(yV d.slots vs).length:=by omega
  subst hie;rw[List.take_length];have hno:¬((yV d.slots vs).length<d.slots.length∧(yV d.slots vs).length<vs.length):=by omega
  by_cases c1:(yV d.slots vs).length<d.slots.length
  ·have c2:¬(yV d.slots vs).length<vs.length:=fun h=>hno ⟨c1,h⟩
   simp[xS,hP,zP,c1,c2]
   intros
   refine zM he [0] (by decide) (by simp[xS,hP]) (by simp[zH]) ?_;simp[xS,hP,zI];exact zF [0] 0 (by decide) (by simp) (by simp) (by simp[zI])
  ·simp[xS,hP,zP,c1]
   intros
   refine zM he [0] (by decide) (by simp[xS,hP]) (by simp[zH]) ?_;simp[xS,hP,zI];exact zF [0] 0 (by decide) (by simp) (by simp) (by simp[zI])
end
structure Res where
 v:Val
 ds:List Id
 ns:List Id
 e:Int
def zB3 (r:Res):A:=.tup [.agg (zI r.v),.agg [.sl r.ds.length (zX r.ds),.sl r.ns.length (zX r.ns)],int r.e]
def zH8 (r:Val×XS):Res:=⟨if r.2.fail=0 then r.1 else vz,zBj r.2.ds,zBj r.2.ns,r.2.fail⟩
def zPx (p:Prg)(d:Dfn)(vs:List Val)(fuel:Int):Val×XS:=zAl (zAq p 1 fuel.toNat) d vs ⟨fuel,0,zAE p d.slots [],[]⟩
def zB9 (p:Prg)(id:Id)(vs:List Val)(fuel:Int):Res:=match yL p.defs id with
 | none=>⟨vz,[],[],6⟩
 | some d=>if zCu d.kind=false then ⟨vz,[],[],6⟩ else if vs.length≠d.slots.length then ⟨vz,[],[],1⟩
  else if zBf p (d.slots.map Slt.typ) vs=false then ⟨vz,[],[],1⟩ else zH8 (zPx p d vs fuel)
theorem zIg {P:Prg}:∀{ts:List Typ} {vs:List Val},vs.length=ts.length→(∀(j:Nat) (h1:j<ts.length) (h2:j<vs.length),zAy P ts[j] vs[j]=true)→zBf P ts vs=true
 | [],[],_,_=>rfl
 | t::ts,v::vs,hl,h=>by rw[zBf,Bool.and_eq_true];exact⟨h 0 (by simp) (by simp),zIg (by simpa using hl) fun j h1 h2=>h (j+1) (by simpa using h1) (by simpa using h2)⟩
 | [],v::vs,hl,_=>by simp at hl
 | t::ts,[],hl,_=>by simp at hl
def zWf:K:=(Z (K.dops [(0,0,J 87 20 3),(1,0,D 88 13 0),(2,0,L 89 88 1),(3,1,kC 90 48 [(kt 89)]),(4,0,D 91 13 1),(5,0,L 92 91 1),(6,1,kC 93 48 [(kt 92)]),(7,0,kb 94 [kl,kl] [(0,1,(kt 90)),(1,1,(kt 93))]),(8,0,M 95 16),(9,0,kU 96 95),(10,2,D 97 96 3),(11,2004,L 98 97 1),(12,1004,S 8 87 3),(13,1004,S 9 94 2),(14,0,M 10 98)]) kr)
def qIl:K:=G [kO 4 0,kO 5 1,kZ 8 [ki,ki,kl],kZ 9 [kl,kl],kMi 10 0] (G [J 22 4 2,J 23 5 3,kC 24 42 [(kt 22),(kt 23)],M 21 24,kE 25 21 0,kE 26 21 1,kZ 11 kz0,S 11 25 31,M 12 26] (Z (G [M 27 12,kR 28 27,M 29 28,T 29 false (J 30 11 31),T 29 false (kC 31 43 [(kt 30)]),T 29 false (kR 32 31),kPt 33 29 32] (Y 33 (G [kb 34 [ki,ki,kl] [],kb 35 [kl,kl] [],S 8 34 3,S 9 35 2,kMi 10 6] kr) ks)) (Z (G [M 36 2,kN 37 36,D 38 11 8,L 39 38 1,kN 40 39,kQ 41 37 40 true] (Y 41 (G [kb 42 [ki,ki,kl] [],kb 43 [kl,kl] [],S 8 42 3,S 9 43 2,kMi 10 1] kr) ks)) (G [kZ 13 [kl,kl]] (G [⟨none,.mop (some 44) (.mk 3) []⟩,kZ 14 [(.map none)],S 14 44 1] (G [⟨none,.clo (some 45) 44 [] [(kt 13),(kt 14)]⟩,M 15 45] (G [J 46 4 2,M 47 3,M 48 15,kb 49 [kl,kl,ki,ki,.nilFunc] [(0,2,(kt 46)),(2,1,(kt 47)),(4,1,(kt 48))],kO 50 49,M 16 50] (G [⟨none,.mop (some 51) (.mk 3) []⟩,M 17 51] (Z (G [D 52 11 8,L 53 52 1,kN 54 53,kMi 55 0] (K.block 0 (K.loop (G [kB 56 55 54 .lss] (Z (Y 56 ks (K.exit 0)) (Z (K.block 1 (G [M 57 55,kX 58 53 55 11,J 59 58 11,kZ 19 kz5,M 18 57,S 19 59 11] (Z (Z (K.dops [(0,0,J 60 4 2),(1,0,D 61 19 4),(2,0,J 62 61 5),(3,0,M 63 2),(4,0,M 64 18),(5,0,kX 65 63 64 3),(6,0,J 66 65 3),(7,0,kC 67 45 [(kt 60),(kt 62),(kt 66)]),(8,0,kR 68 67)]) (Y 68 (G [kb 69 [ki,ki,kl] [],kb 70 [kl,kl] [],S 8 69 3,S 9 70 2,kMi 10 1] kr) ks)) (K.ops [M 71 16,D 72 19 4,J 73 72 5,M 74 17,kC 75 46 [(kt 71),(kt 73),(kt 74)]])))) (K.ops [kBi 76 55 1 .add,M 55 76]))))))) (G [M 77 16,J 78 11 31,
 M 79 2,kC 80 47 [(kt 77),(kt 78),(kt 79)],kZ 20 [ki,ki,kl],S 20 80 3] (Z (G [M 81 16,kU 82 81,D 83 82 3,L 84 83 1,kQi 85 84 0 true] (Y 85 (K.ops [kb 86 [ki,ki,kl] [],S 20 86 3]) ks)) (K.wk zWf))))))))))))
def qMx:Nat→Option (List (Nat×Nat)):=fun r=>match r with | 21=>some [(0,0),(1,0),(2,0),(3,1),(4,0),(5,0),(6,1),(7,0),(8,0),(9,0),(10,2),(11,2004),(12,1004),(13,1004),(14,0)] | _=>none
theorem qMl:qJ Tryz.prog Tryz.f13.ntmps qMx (Tryz.f13.body.getD .skip)=some qIl.erase:=by kernel_rfl
@[simp] theorem qN8:zC Tryz.prog 13=true:=by kernel_rfl
@[simp] theorem qKM:zC Tryz.prog 46=true:=by kernel_rfl
theorem zL1 (p:Prg)(d:Dfn)(v:Val)(y:A)(fuel fail:Int)(ds ns:List Id)(h1:ds.length≤1000000)(h2:ns.length≤1000000) :
 wpK Tryz.prog 0 zWf (fin [RS.cell 8 3 true,RS.cell 9 2 true,RS.slot 10] (zG0 0 (zB3 ⟨v,zBj ds,zBj ns,fail⟩) []))
  (jB [(8,.ptr 0 0),(9,.ptr 1 0),(13,.ptr 5 0),(16,.ptr 4 0),(20,.ptr 6 0)])
  [.box [int 0,int 0,.nil],.box [.nil,.nil],.box (zQ p),.box (zP d),.box (zQ p++[int fuel,int fail,.clo 44 [] [.ptr 5 0,y]]),.box [.sl ds.length (zX ds),.sl ns.length (zX ns)],.box (zI v)]:=by
 have hP:=eP p;unfold zWf;simp[hP,zI];refine zAn (zHL ds h1) (by simp) (by simp) ?_;simp;refine zAn (zHL ns h2) (by simp) (by simp) ?_;simp;exact⟨by simp[zAr],by simp[zAr,zBU],by simp[zAr,zBU],zA 0 (by simp[zB3,zI])⟩
theorem zI7 {d:Dfn}(h:zCu d.kind=true):zCn d=true:=by simp[zCu]at h;simp[zCn];omega
theorem zIj {p:Prg}{hs:List Hd}(hf:Fit p hs):zPX p:=fun d hd=>⟨(hf.slots d hd).2.1,(hf.slots d hd).2.2.2.1⟩
set_option maxHeartbeats 4000000 in
set_option maxRecDepth 100000 in
theorem zTL {p:Prg}{hs:List Hd}(hf:Fit p hs)(id:Id)(vs:List Val)(fuel:Int)(hfu:fuel≤90000)(hz:∀v∈vs,qE v≤256∧zAg v≤24) :
 Ret Tryz.prog 13 [.agg (zQ p),.agg (qL id),.sl vs.length (zZ vs),int fuel] [] (zB3 (zB9 p id vs fuel)) []:=by
 have hP:=eP p;refine zJ Tryz.func13 rfl qMl (rs:=[.cell 8 3 true,.cell 9 2 true,.slot 10]) (by kernel_rfl) ?_;unfold qIl;simp[hP,qL];refine zR (zJJ p id) (by simp[zQ,qL]) (by simp[zAh]) ?_;cases hd:yL p.defs id with
 | none =>
  rw[show zB9 p id vs fuel=⟨vz,[],[],6⟩ by simp[zB9,hd]];simp[zAh,hd,zP];exact zA 0 (by simp[zB3,zI,zU,zO,zG])
 | some d =>
 have hdm:=(zAz hd).1;obtain⟨s1,s6,_,snd,sty⟩:=hf.slots d hdm;simp[zAh,hd,zP];refine zR (zFY d) (by simp[zP]) (by simp) ?_;cases hb:zCu d.kind with
 | false =>
  rw[show zB9 p id vs fuel=⟨vz,[],[],6⟩ by simp[zB9,hd,hb]];simp;exact zA 0 (by simp[zB3,zI,zU,zO,zG])
 | true =>
 by_cases hl:vs.length=d.slots.length
 ·have hfit:=fun i (hi:i<d.slots.length)=>zSj p d.slots[i].typ (vs[i]'(by omega)) (hz _ (List.getElem_mem _)).1 (hz _ (List.getElem_mem _)).2
  have hgo:∀s:XS,s.ns=[]→∀i (hi:i<d.slots.length),zH7 p s 10 d.slots[i].typ:=fun s hs0 i hi=>zNf hf s hs0 (sty _ (List.getElem_mem hi)) 10 (by omega)
  have hrl:∀i,i≤d.slots.length→RL p (zAE p (d.slots.take i) []):=by
   intro i hi;induction i with
   | zero=>exact⟨by simp[zAE],by simp[zAE]⟩
   | succ i ih =>
    have:=zCg (fun L (s:Slt)=>yU p 10 s.typ L) [] (l:=d.slots) (i:=i) (by omega);unfold zAE at ih ⊢;rw[this];exact((hgo ⟨0,0,[],[]⟩ rfl i (by omega)) _ (ih (by omega))).1
  obtain⟨S,hS⟩:∃S:XS,S=⟨fuel,0,[],[]⟩:=⟨_,rfl⟩;have hS0:S.ns=[]:=by rw[hS]
  have hSf:S.fuel=fuel:=by rw[hS]
  have hSe:S.fail=0:=by rw[hS]
  simp[hl];intro hls;refine qP (S:=Nat) (fun i=>[(2,.sl vs.length (zZ vs)),(4,.ptr 7 0),(8,.ptr 8 0),(9,.ptr 9 0),(10,int 0),(11,.ptr 10 0),(13,.ptr 1 0),(16,.ptr 0 0),(17,.map 6),(53,.sl d.slots.length (yA d.slots)),(54,int d.slots.length),(55,int i)])
   (fun i=>rS p S (zAE p (d.slots.take i) [])++[.box (zQ p),.box [int 0,int 0,.nil],.box [.nil,.nil],.box (zP d)]) (fun i=>i≤d.slots.length∧∀j (hj:j<i) (hj':j<d.slots.length),zAy p d.slots[j].typ (vs[j]'(by omega))=true) (fun i=>d.slots.length-i) 0 ⟨by omega,fun j hj=>by omega⟩
   (((zAm (l:=5) (o:=0) rfl rfl 29 3).trans (zAm (l:=5) (o:=1) rfl rfl 29 3)).trans (zV [8,5,7,10,11,6,9,0,2,3,4] 0 (by decide) (by simp) (by simp[rS,tS,hP,hS,zAE,ddL,zHd,zP]) (by simp[hl]))) ?_
  rintro i ⟨hi,hft⟩;by_cases hil:i<d.slots.length
  ·have hiv:i<vs.length:=by omega
   have hdr:=qZ hil;have hdv:=qY hiv;have hfi:=hfit i hil;obtain⟨_,hro⟩:=hgo S hS0 i hil _ (hrl i (by omega));have hst:=zCg (fun L (s:Slt)=>yU p 10 s.typ L) [] hil;change zAE p (d.slots.take (i+1)) []=yU p 10 d.slots[i].typ (zAE p (d.slots.take i) [])at hst;generalize zAE p (d.slots.take i) []=L at hro hst ⊢;have hd0:ddL S.ns=[]:=by rw[hS0]; rfl
   cases hfv:zAy p d.slots[i].typ vs[i]with
   | false =>
    rw[hfv]at hfi;have hfl:zBf p (d.slots.map Slt.typ) vs=false:=by
     cases hq:zBf p (d.slots.map Slt.typ) vs with
     | false=>rfl
     | true =>
      have:=zEl hq i (by simpa using hil) hiv;rw[List.getElem_map,hfv]at this;cases this
    have hx:zB9 p id vs fuel=⟨vz,[],[],1⟩:=by simp[zB9,hd,hb,hl,hfl]
    rw[hx];simp[rS,tS,hP,hSf,hSe,hd0,hil,hiv,hdr,hdv,yZ];refine qI hfi (by simp[hP,zB,zI]) (by simp) ?_;simp;exact zA 0 (by simp[zB3,zI,zU,zO,zG])
   | true =>
    rw[hfv]at hfi;simp[rS,tS,hP,hSf,hSe,hd0,hil,hiv,hdr,hdv,yZ];refine qI hfi (by simp[hP,zB,zI]) (by simp) ?_;simp;refine zM hro [0,1,2,3,4,5,6] (by decide) (by simp[rS,tS,hP,hSf,hSe,hd0]) (by simp[zB]) ?_;simp[rS,tS,hP,hSf,hSe,hd0];refine zW (i+1) ⟨hil,fun j hj hj'=>?_⟩ (by omega) (zV [0,1,2,3,4,5,6,7,8,9,10] 0 (by decide) (by simp) (by simp[rS,tS,hP,hSf,hSe,hd0,hst]) (by simp[qH hil hls]));by_cases hji:j=i
    ·subst hji; exact hfv
    ·exact hft j (by omega) hj'
  ·have hie:i=d.slots.length:=by omega
   subst hie;have hfl:zBf p (d.slots.map Slt.typ) vs=true:=zIg (by simpa using hl) fun j h1 h2=>by rw[List.getElem_map];exact hft j (by simpa using h1) (by simpa using h1)
   have hx:zB9 p id vs fuel=zH8 (zPx p d vs fuel):=by simp[zB9,hd,hb,hl,hfl]
   rw[hx];have htk:d.slots.take d.slots.length=d.slots:=List.take_length;have hL8:=(hrl d.slots.length (Nat.le_refl _)).len hf;rw[htk]at hL8 ⊢;have hty:TyL p (d.slots.map Slt.typ) vs:=TyL.of (by simpa using hl) fun j hj=>by rw[List.getElem_map];exact zM3 hf (sty _ (List.getElem_mem _)) _ (hft j (by omega) (by omega))
   have hbB:zCn d=true:=zI7 hb;have hBd:Bd 100000 fuel.toNat ⟨fuel,0,zAE p d.slots [],[]⟩:=⟨by simp; omega,by simp only; omega,by simp only; omega,fun _=>by simp only; omega⟩;have hIh:=zOh (c:=100000) hf.bods (zIj hf) (by omega) fuel.toNat;have hbo:=zQG hIh (by omega) d vs (fun _=>hl) snd s6 (fun _ _=>⟨_,_,hf.bods _ d hd hbB,EnvT.args hty fun v hv=>(hz v hv).1,zFE snd vs hl⟩) hBd;have hrB:=zNu hIh.bd d vs _ hBd;change Ret Tryz.prog 47 _ _ (.agg (zI (zPx p d vs fuel).1)) (tS p (zPx p d vs fuel).2)at hbo;change Bd 100000 fuel.toNat (zPx p d vs fuel).2 at hrB;generalize zPx p d vs fuel=r at *
   obtain⟨v,s⟩:=r;simp only at *
   have hd0:ddL S.ns=[]:=by rw[hS0]; rfl
   have r1:=hrB.ds;have r2:=hrB.ns;have r3:=zMC s.ns;generalize zAE p d.slots []=L at *
   simp[rS,tS,hP,hSf,hSe,hd0,zP];refine zM hbo [0,1,2,3,4,5] (by decide) (by simp[tS,hP,ddL,zHd]) (by simp[zP]) ?_;simp[tS,hP,zI];by_cases h0:s.fail=0
   ·have he:zH8 (v,s)=⟨v,zBj s.ds,zBj (ddL s.ns),s.fail⟩:=by rw[zQQ]; simp[zH8,h0]
    rw[he];simp[h0];have hr:=zL1 p d v (.rptr [.any]) s.fuel s.fail s.ds (ddL s.ns) (by omega) (by omega);rw[h0]at hr;exact⟨_,_,zV [8,9,7,10,0,1,11] 1 (by decide) (by simp) (by simp[hP,zP,zI]) (by simp),hr⟩
   ·have he:zH8 (v,s)=⟨vz,zBj s.ds,zBj (ddL s.ns),s.fail⟩:=by rw[zQQ]; simp[zH8,h0]
    rw[he];simp[h0];exact⟨_,_,zV [8,9,7,10,0,1,11] 1 (by decide) (by simp) (by simp[hP,zP,zI,zU,zO,zG]) (by simp),zL1 p d vz (.rptr [.any]) s.fuel s.fail s.ds (ddL s.ns) (by omega) (by omega)⟩
 ·rw[show zB9 p id vs fuel=⟨vz,[],[],1⟩ by simp[zB9,hd,hb,hl]];have hl':¬((vs.length:Int)=d.slots.length):=by omega
  simp[hl']
  intros
  exact zA 0 (by simp[zB3,zI,zU,zO,zG])
end Go.Proofs.YthglhccibdlccaaGreatDoor
