/-
  trace: nodes.
  The reference's tracer: lists of nodes, bodies.
  trace.Call.
  The reference's evaluator: lists of nodes, bodies.
  The reference's tracer: values.
  The reference: the names in types, and what they reach.
  The reference's evaluator: values.
  The reference's tracer: nodes.
  The reference: what the types of a definition's slots reach.
-/
import Derived.Test.YthglhccibdlccaaGreatDoorX46
import Derived.Test.YthglhccibdlccaaGreatDoorX43
import Derived.Test.YthglhccibdlccaaGreatDoorX30
import Derived.Test.YthglhccibdlccaaGreatDoorX24
import Derived.Test.YthglhccibdlccaaGreatDoorX45
import Derived.Test.YthglhccibdlccaaGreatDoorX37
set_option linter.unusedVariables false
set_option linter.unusedSimpArgs false
namespace Go.Proofs.YthglhccibdlccaaGreatDoor
open Go.Abs
section
variable {p:Prg}{c:Nat}{m:Int}{ev:Evl}{e:Exp}{V:List EVar}{s:XS}
theorem zSC (hk:e.k=0):zOJ p e V s (.mk 0 e.n [],s):=by have hP:=eP p;refine zH Tryz.func129 rfl zT7 (rs:=[.cell 6 3 true]) (by kernel_rfl) ?_;unfold zRn;simp[tE,tS,hP,zF,hk];exact zG [0,1,2,3,4,5,6] 0 (by decide) (by simp) (by simp) (by simp[zP,jX,jC,qH])
theorem zPZ (hk:e.k=1):zOJ p e V s (.mk 1 e.n [],s):=by have hP:=eP p;refine zH Tryz.func129 rfl zT7 (rs:=[.cell 6 3 true]) (by kernel_rfl) ?_;unfold zRn;simp[tE,tS,hP,zF,hk];exact zG [0,1,2,3,4,5,6] 0 (by decide) (by simp) (by simp) (by simp[zP,jX,jC,qH])
theorem zSD {v:Val}(hk:e.k=2)(hf:zAx [e.ref.a,e.ref.b,e.ref.c,e.n] (zDq V)=some (.agg [.lit (.int .i64 v.k),.lit (.int .i64 v.n),.sl v.kids.length (zZ v.kids)])):zOJ p e V s (v,s):=by have hP:=eP p;refine zH Tryz.func129 rfl zT7 (rs:=[.cell 6 3 true]) (by kernel_rfl) ?_;unfold zRn;simp[tE,tS,hP,zF,hk,hf];exact zG [0,1,2,3,4,5,6] 0 (by decide) (by simp) (by simp) (by simp[zP])
theorem zFp (hk:e.k=5∨e.k=6∨e.k=8∨e.k=10∨e.k=12)(hb:zG2 p ev e V s):zOJ p e V s (jR ev e V s):=by have hP:=eP p;unfold zG2 at hb;generalize jR ev e V s=r at hb;refine zH Tryz.func129 rfl zT7 (rs:=[.cell 6 3 true]) (by kernel_rfl) ?_;unfold zRn;rcases hk with hk | hk | hk | hk | hk<;>simp[tE,tS,hP,zF,hk]<;>refine zN hb [0,1,2,3,4,5,6] (by decide) (by simp[tE,tS,hP]) (by simp[zF,hk]) ?_<;>simp[tE,tS,hP,zP]<;>exact zG [0,1,2,3,4,5,6] 0 (by decide) (by simp) (by simp) (by simp[zP])
def zZS (p:Prg):Prop:=∀d∈p.defs,d.slots.length≤6∧d.slots.Pairwise fun a b=>a.id≠b.id
theorem zQ2 {ss:List Slt}(hnd:ss.Pairwise fun a b=>a.id≠b.id)(vs:List Val)(hl:vs.length=ss.length):NdV (zCA ss vs):=by
 unfold NdV;rw[List.pairwise_iff_getElem];intro i j hi hj hij e;have hi':i<ss.length:=by rw[zGJ ss vs hl]at hi; exact hi
 have hj':j<ss.length:=by rw[zGJ ss vs hl]at hj; exact hj
 have:=List.pairwise_iff_getElem.1 hnd i j hi' hj' hij;have e1:(zCA ss vs)[i].id=ss[i].id:=by simp[zCA]
 have e2:(zCA ss vs)[j].id=ss[j].id:=by simp[zCA]
 exact this (by rw[←e1,←e2]; exact e.1)
theorem zS9 (hp:zMB p)(hsl:zZS p)(h:Ih p c m ev)(hc:c≤100000){B:List Bnd}{t:Typ}(he:WE p B e t)(hV:EnvT p B V)(hN:NdV V)(hB:Bd c m s):zOJ p e V s (qA p 1 ev e V s):=by
 cases he with
 | int _ i n r u ns h1 h2=>exact zSC rfl
 | bool _ i n r u ns h1=>exact zPZ rfl
 | var _ i n r u ns _ hl=>exact zSD (e:=.mk i 2 n r u [] ns) rfl (hV.get hN hl)
 | call _ i n r u ks ns hn d hd hk hl hw =>
  have e1:qA p 1 ev (.mk i 3 n r u ks ns) V s=zB6 ev d (jE ev V ks s).1 (jE ev V ks s).2:=by simp[qA,dfn,hd]
  rw[e1];have hB1:=zIM h.bd V ks s hB;have hdm:=(zB3 hd).1;refine zDn h (.inl rfl) hn (fun k hk s=>?_) hB ?_
  ·obtain⟨j,hj,rfl⟩:=List.getElem_of_mem hk;exact .of (hw j hj) hV hN
  ·simp only[Exp.kids_mk];by_cases hf:(jE ev V ks s).2.fail=0
   ·obtain⟨ht,hz⟩:=zDt h.stop h.snd hV ks _ s hl hw hf;have hlen:=ht.len;rw[List.length_map]at hlen;exact zSz hf rfl hd (zQt h hc d _ (fun _=>hlen) (hsl d hdm).2 (hsl d hdm).1 (fun _ _=>⟨_,_,hp r d hd (by simp[zCi,hk]),EnvT.args ht hz,zQ2 (hsl d hdm).2 _ hlen⟩) hB1)
   ·have e2:zB6 ev d (jE ev V ks s).1 (jE ev V ks s).2=(vz,(jE ev V ks s).2):=by unfold zB6; rw[if_pos hf]
    rw[e2];exact zDU hf
 | op _ i n r u ks ns hn ts _ ho hl hw =>
  have e1:qA p 1 ev (.mk i 4 n r u ks ns) V s=(zf true (jE ev V ks s).2 (opV n (jE ev V ks s).1),(jE ev V ks s).2):=by simp[qA]
  rw[e1];refine zDn h (.inr (.inl rfl)) hn (fun k hk s=>?_) hB ?_
  ·obtain⟨j,hj,rfl⟩:=List.getElem_of_mem hk;exact .of (hw j hj) hV hN
  ·simp only[Exp.kids_mk];by_cases hf:(jE ev V ks s).2.fail=0
   ·obtain⟨ht,hz⟩:=zDt h.stop h.snd hV ks _ s hl hw hf;rw[zHw hf];exact zXA (e:=.mk i 4 n r u ks ns) hf rfl ho ht hz
   ·have e2:zf true (jE ev V ks s).2 (opV n (jE ev V ks s).1)=vz:=by simp[zf,hf]
    rw[e2];exact zDU hf
 | record _ i n r u ks ns hn d hd hk hl hw =>
  have e1:qA p 1 ev (.mk i 7 n r u ks ns) V s=(zf true (jE ev V ks s).2 (.mk 2 0 (jE ev V ks s).1),(jE ev V ks s).2):=by simp[qA]
  rw[e1];refine zDn h (.inr (.inr (.inl rfl))) hn (fun k hk s=>?_) hB ?_
  ·obtain⟨j,hj,rfl⟩:=List.getElem_of_mem hk;exact .of (hw j hj) hV hN
  ·simp only[Exp.kids_mk];by_cases hf:(jE ev V ks s).2.fail=0
   ·rw[zHw hf]; exact zVn hf rfl
   ·have e2:∀v,zf true (jE ev V ks s).2 v=vz:=fun v=>by simp[zf,hf]
    rw[e2];exact zDU hf
 | case _ i r u a ns d j hd hk hj ha =>
  have e1:qA p 1 ev (.mk i 9 j r u [a] ns) V s=(zf true (jE ev V [a] s).2 (.mk 3 j (jE ev V [a] s).1),(jE ev V [a] s).2):=by simp[qA]
  rw[e1];refine zDn h (.inr (.inr (.inr (.inl rfl)))) (by simp) (fun k hk s=>?_) hB ?_
  ·simp only[Exp.kids_mk,List.mem_singleton]at hk;subst hk;exact .of ha hV hN
  ·simp only[Exp.kids_mk];by_cases hf:(jE ev V [a] s).2.fail=0
   ·rw[zHw hf]; exact zS0 (e:=.mk i 9 j r u [a] ns) hf rfl
   ·have e2:∀v,zf true (jE ev V [a] s).2 v=vz:=fun v=>by simp[zf,hf]
    rw[e2];exact zDU hf
 | list _ i n r u ks ns t hn hw =>
  have e1:qA p 1 ev (.mk i 11 n r u ks ns) V s=(zf true (jE ev V ks s).2 (.mk 4 0 (jE ev V ks s).1),(jE ev V ks s).2):=by simp[qA]
  rw[e1];refine zDn h (.inr (.inr (.inr (.inr rfl)))) hn (fun k hk s=>?_) hB ?_
  ·obtain⟨j,hj,rfl⟩:=List.getElem_of_mem hk;exact .of (hw j hj) hV hN
  ·simp only[Exp.kids_mk];by_cases hf:(jE ev V ks s).2.fail=0
   ·rw[zHw hf]; exact zS1 hf rfl
   ·have e2:∀v,zf true (jE ev V ks s).2 v=vz:=fun v=>by simp[zf,hf]
    rw[e2];exact zDU hf
 | ite _ i n r u a b c ns _ ha hb hc =>
  have e1:qA p 1 ev (.mk i 5 n r u [a,b,c] ns) V s=jR ev (.mk i 5 n r u [a,b,c] ns) V s:=by simp[qA]
  rw[e1];exact zFp (.inl rfl) (zOL h rfl rfl ha hb hc hV hN hB.bn)
 | lets _ i n r u a b ns v _ hfr ha hb =>
  have e1:qA p 1 ev (.mk i 6 n r u [a,b] ns) V s=jR ev (.mk i 6 n r u [a,b] ns) V s:=by simp[qA]
  rw[e1];exact zFp (.inr (.inl rfl)) (zOM h rfl rfl hfr ha hb hV hN hB.bn)
 | field _ i r u a ns d j hd hk hj ha =>
  have e1:qA p 1 ev (.mk i 8 j r u [a] ns) V s=jR ev (.mk i 8 j r u [a] ns) V s:=by simp[qA]
  rw[e1];exact zFp (.inr (.inr (.inl rfl))) (zLO h rfl rfl rfl hd hk hj ha hV hN hB.bn)
 | mtch _ i n r u a ks ns d _ hfr hd hk hl ha hw =>
  have e1:qA p 1 ev (.mk i 10 n r u (a::ks) ns) V s=jR ev (.mk i 10 n r u (a::ks) ns) V s:=by simp[qA]
  rw[e1];exact zFp (.inr (.inr (.inr (.inl rfl)))) (zLP h rfl rfl hfr hd hk hl (by have:=(hsl d (zB3 hd).1).1; omega) ha hw hV hN hB.bn)
 | fold _ i n r u l s' b ns v _ hfr hl' hs' hb =>
  have e1:qA p 1 ev (.mk i 12 n r u [l,s',b] ns) V s=jR ev (.mk i 12 n r u [l,s',b] ns) V s:=by simp[qA]
  rw[e1];exact zFp (.inr (.inr (.inr (.inr rfl)))) (zMO h rfl rfl hfr hl' hs' hb hV hN hB.bn)
def zVO:K:=G [kO 4 1,kZ 6 [ki,ki,kl]] (Z (G [M 8 0,kU 9 8,D 10 9 3,L 11 10 1,kQi 12 11 0 true] (Y 12 (G [kb 13 [ki,ki,kl] [],S 6 13 3] kr) ks)) (Z (G [M 14 0,kU 15 14,D 16 15 2,L 17 16 1,kBi 18 17 0 .leq] (Y 18 (G [M 19 0,kU 20 19,D 21 20 3,⟨none,.st none (kt 21) (kc 18) 1⟩] (G [kb 22 [ki,ki,kl] [],S 6 22 3] kr)) ks)) (G [M 23 0,kU 24 23,D 25 24 2,L 26 25 1,kBi 27 26 1 .sub,kU 28 23,D 29 28 2,S 29 27 1] (Z (K.dops [(0,0,M 30 0),(1,0,kU 31 30),(2,0,D 32 31 4),(3,0,L 33 32 1),(4,0,D 34 4 0),(5,0,J 35 34 3),(6,4,⟨none,.call (some 36) (kt 33) [(.const (.bool false)),(kt 35)]⟩)]) (G [M 37 0,J 38 4 15,M 39 2,kC 40 129 [(kt 37),(kt 38),(kt 39)],kZ 7 [ki,ki,kl],S 7 40 3] (Z (G [M 41 0,kU 42 41,D 43 42 3,L 44 43 1,kQi 45 44 0 false,M 46 45,T 46 true (J 47 7 3),T 46 true (kC 48 130 [(kt 47)]),T 46 true (kBi 49 48 256 .gtr),T 46 true (M 50 49),T 50 false (J 51 7 3),T 50 false (kC 52 131 [(kt 51)]),T 50 false (kBi 53 52 24 .gtr),T 46 true (kPt 54 50 53),kPf 55 46 54] (Y 55 (K.ops [M 56 0,kU 57 56,D 58 57 3,⟨none,.st none (kt 58) (kc 4) 1⟩]) ks)) (G [J 59 7 3,S 6 59 3] kr)))))))
def qN5:Nat→Option (List (Nat×Nat)):=fun r=>match r with | 7=>some [(0,0),(1,0),(2,0),(3,0),(4,0),(5,0),(6,4)] | _=>none
theorem qAg:qC Tryz.prog Tryz.f93.ntmps qN5 (Tryz.f93.body.getD .skip)=some zVO.erase:=by kernel_rfl
@[simp] theorem qMF:zA Tryz.prog 93=true:=by kernel_rfl
theorem zNS (hf:s.fail≠0):TOk p (vz,s) e V s:=by have hP:=eP p;refine zH Tryz.func93 rfl qAg (rs:=[.cell 6 3 true]) (by kernel_rfl) ?_;unfold zVO;simp[tE,tS,hP,zF,hf];exact zG [0,1,2,3,4,5,6] 0 (by decide) (by simp) (by simp) (by simp[zP,jX,jC,qH])
theorem zNT (hf:s.fail=0)(hu:s.fuel≤0):TOk p (vz,{s with fail:=zGI}) e V s:=by have hP:=eP p;refine zH Tryz.func93 rfl qAg (rs:=[.cell 6 3 true]) (by kernel_rfl) ?_;unfold zVO;simp[tE,tS,hP,zF,hf,hu];exact zG [0,1,2,3,4,5,6] 0 (by decide) (by simp) (by simp) (by simp[zP,jX,jC,qH])
set_option maxHeartbeats 1000000 in
theorem zXl {r:Val×XS}(hc:c≤100000)(hf:s.fail=0)(hu:¬s.fuel≤0)(hB:Bn c m s)(hv:zOJ p e V (zCE e s) r):TOk p (zR6 1 r) e V s:=by
 have hP:=eP p;have hw:IntKind.i64.wrap (s.fuel-1)=s.fuel-1:=IntWalk.i64_in _ (by have:=hB.ns; omega);have b1:=hB.ns;have b2:=hB.ds;have b3:=zLU s.ns;have hn:=zMp false e.id s.ds (ddL s.ns) (by omega) (by omega);simp only[Bool.false_eq_true,if_false,←zJl]at hn;have ht:zCE e s=⟨s.fuel-1,s.fail,s.ds,s.ns++[e.id]⟩:=rfl;rw[ht,hf]at hv;have he:zR6 1 r=(r.1,zDH r):=by simp[zR6,zf]
 rw[he];refine zH Tryz.func93 rfl qAg (rs:=[.cell 6 3 true]) (by kernel_rfl) ?_;unfold zVO;simp[tE,tS,hP,zF,hf,hu,hw];refine zAn hn [1,2,3,4,5] (by decide) (by simp[nS]) (by simp[qF]) ?_;simp[nS];refine zN hv [0,1,2,3,4,5,6] (by decide) (by simp[tE,tS,hP]) (by simp[zF]) ?_;simp[tE,tS,hP,zP];by_cases h0:r.2.fail=0
 ·simp[h0];refine zQ (zRa r.1) (by simp[zP]) (by simp) ?_;by_cases h1:256<zD6 r.1
  ·have hl:zDH r={r.2 with fail:=zFY}:=by unfold zDH; rw[if_pos ⟨h0,.inl h1⟩]
   simp[h1];exact zG [0,1,2,3,4,5,6] 0 (by decide) (by simp) (by simp[hl,zFY]) (by simp[zP])
  ·simp[h1];refine zQ (zQ1 r.1) (by simp[zP]) (by simp) ?_;by_cases h2:24<zCb r.1
   ·have hl:zDH r={r.2 with fail:=zFY}:=by unfold zDH; rw[if_pos ⟨h0,.inr h2⟩]
    simp[h2];exact zG [0,1,2,3,4,5,6] 0 (by decide) (by simp) (by simp[hl,zFY]) (by simp[zP])
   ·have hl:zDH r=r.2:=by unfold zDH; rw[if_neg fun h=>h.2.elim h1 h2]
    simp[h2];exact zG [0,1,2,3,4,5,6] 0 (by decide) (by simp) (by simp[hl,h0]) (by simp[zP])
 ·have hl:zDH r=r.2:=by unfold zDH; rw[if_neg fun h=>h0 h.1]
  simp[h0];exact zG [0,1,2,3,4,5,6] 0 (by decide) (by simp) (by simp[hl]) (by simp[zP])
theorem zO4 (hp:zMB p)(hsl:zZS p)(hc:c≤100000):∀n:Nat,Ih p c n (zAH p 1 n)
 | 0=>⟨zEz p 1 0,zHd hp 1 0,zJN 1 0,fun e V s hA hB=>by
  rw[zAH];have hu:=hB.fu;split
  ·rename_i hf; exact zNS hf
  ·rename_i hf; exact zNT (by omega) (by omega)⟩
 | n+1=>⟨zEz p 1 (n+1),zHd hp 1 (n+1),zJN 1 (n+1),fun e V s hA hB=>by
  rw[zAH];split
  ·rename_i hf; exact zNS hf
  ·rename_i hf;have hf:s.fail=0:=by omega
   split
   ·rename_i hu; exact zNT hf hu
   ·rename_i hu;obtain⟨B,t,he,hV,hN⟩:=hA hf;have ht:=hB.tick e hu;have:((n+1:Nat):Int)-1=n:=by omega
    rw[this]at ht;exact zXl hc hf hu hB (zS9 hp hsl (zO4 hp hsl hc n) hc he hV hN ht)⟩
end
def xS (p:Prg)(s:XS):St:=[.box (zU p++[int s.fuel,int s.fail,.sl (zCk s.ds).length (zX (zCk s.ds)),.sl (zCk s.ns).length (zX (zCk s.ns))])]
@[simp] theorem qNk:zA Tryz.prog 102=true:=by kernel_rfl
@[simp] theorem qNl:zA Tryz.prog 138=true:=by kernel_rfl
@[simp] theorem qNj:zA Tryz.prog 51=true:=by kernel_rfl
section
variable {p:Prg}{c:Nat}{m:Int}{ev:Evl}{e:Exp}{V:List EVar}{s:XS}
@[simp] theorem qNe:zA Tryz.prog 160=true:=by kernel_rfl
@[simp] theorem qNf:zA Tryz.prog 51=true:=by kernel_rfl
end
structure Res where
 v:Val
 ds:List Id
 ns:List Id
 e:Int
def zEj (r:Res):A:=.tup [.agg (zP r.v),.agg [.sl r.ds.length (zX r.ds),.sl r.ns.length (zX r.ns)],int r.e]
def zPf (r:Val×XS):Res:=⟨if r.2.fail=0 then r.1 else vz,zCk r.2.ds,zCk r.2.ns,r.2.fail⟩
def zMz (p:Prg)(d:Dfn)(vs:List Val)(fuel:Int):Val×XS:=zB6 (zAH p 1 fuel.toNat) d vs ⟨fuel,0,zCf p d.slots [],[]⟩
def zC9 (p:Prg)(id:Id)(vs:List Val)(fuel:Int):Res:=match zAg p.defs id with
 | none=>⟨vz,[],[],6⟩
 | some d=>if zA9 d.kind=false then ⟨vz,[],[],6⟩ else if vs.length≠d.slots.length then ⟨vz,[],[],1⟩
  else if zBk p (d.slots.map Slt.typ) vs=false then ⟨vz,[],[],1⟩ else zPf (zMz p d vs fuel)
theorem zHH {P:Prg}:∀{ts:List Typ} {vs:List Val},vs.length=ts.length→(∀(j:Nat) (h1:j<ts.length) (h2:j<vs.length),zBb P ts[j] vs[j]=true)→zBk P ts vs=true
 | [],[],_,_=>rfl
 | t::ts,v::vs,hl,h=>by rw[zBk,Bool.and_eq_true];exact⟨h 0 (by simp) (by simp),zHH (by simpa using hl) fun j h1 h2=>h (j+1) (by simpa using h1) (by simpa using h2)⟩
 | [],v::vs,hl,_=>by simp at hl
 | t::ts,[],hl,_=>by simp at hl
def zTn:K:=(Z (K.dops [(0,0,J 87 20 3),(1,0,D 88 13 0),(2,0,L 89 88 1),(3,1,kC 90 48 [(kt 89)]),(4,0,D 91 13 1),(5,0,L 92 91 1),(6,1,kC 93 48 [(kt 92)]),(7,0,kb 94 [kl,kl] [(0,1,(kt 90)),(1,1,(kt 93))]),(8,0,M 95 16),(9,0,kU 96 95),(10,2,D 97 96 3),(11,2004,L 98 97 1),(12,1004,S 8 87 3),(13,1004,S 9 94 2),(14,0,M 10 98)]) kr)
def qFa:K:=G [kO 4 0,kO 5 1,kZ 8 [ki,ki,kl],kZ 9 [kl,kl],kMi 10 0] (G [J 22 4 2,J 23 5 3,kC 24 42 [(kt 22),(kt 23)],M 21 24,kE 25 21 0,kE 26 21 1,kZ 11 kz0,S 11 25 31,M 12 26] (Z (G [M 27 12,kR 28 27,M 29 28,T 29 false (J 30 11 31),T 29 false (kC 31 43 [(kt 30)]),T 29 false (kR 32 31),kPt 33 29 32] (Y 33 (G [kb 34 [ki,ki,kl] [],kb 35 [kl,kl] [],S 8 34 3,S 9 35 2,kMi 10 6] kr) ks)) (Z (G [M 36 2,kN 37 36,D 38 11 8,L 39 38 1,kN 40 39,kQ 41 37 40 true] (Y 41 (G [kb 42 [ki,ki,kl] [],kb 43 [kl,kl] [],S 8 42 3,S 9 43 2,kMi 10 1] kr) ks)) (G [kZ 13 [kl,kl]] (G [⟨none,.mop (some 44) (.mk 3) []⟩,kZ 14 [(.map none)],S 14 44 1] (G [⟨none,.clo (some 45) 44 [] [(kt 13),(kt 14)]⟩,M 15 45] (G [J 46 4 2,M 47 3,M 48 15,kb 49 [kl,kl,ki,ki,.nilFunc] [(0,2,(kt 46)),(2,1,(kt 47)),(4,1,(kt 48))],kO 50 49,M 16 50] (G [⟨none,.mop (some 51) (.mk 3) []⟩,M 17 51] (Z (G [D 52 11 8,L 53 52 1,kN 54 53,kMi 55 0] (K.block 0 (K.loop (G [kB 56 55 54 .lss] (Z (Y 56 ks (K.exit 0)) (Z (K.block 1 (G [M 57 55,kX 58 53 55 11,J 59 58 11,kZ 19 kz5,M 18 57,S 19 59 11] (Z (Z (K.dops [(0,0,J 60 4 2),(1,0,D 61 19 4),(2,0,J 62 61 5),(3,0,M 63 2),(4,0,M 64 18),(5,0,kX 65 63 64 3),(6,0,J 66 65 3),(7,0,kC 67 45 [(kt 60),(kt 62),(kt 66)]),(8,0,kR 68 67)]) (Y 68 (G [kb 69 [ki,ki,kl] [],kb 70 [kl,kl] [],S 8 69 3,S 9 70 2,kMi 10 1] kr) ks)) (K.ops [M 71 16,D 72 19 4,J 73 72 5,M 74 17,kC 75 46 [(kt 71),(kt 73),(kt 74)]])))) (K.ops [kBi 76 55 1 .add,M 55 76]))))))) (G [M 77 16,J 78 11 31,
 M 79 2,kC 80 47 [(kt 77),(kt 78),(kt 79)],kZ 20 [ki,ki,kl],S 20 80 3] (Z (G [M 81 16,kU 82 81,D 83 82 3,L 84 83 1,kQi 85 84 0 true] (Y 85 (K.ops [kb 86 [ki,ki,kl] [],S 20 86 3]) ks)) (K.wk zTn))))))))))))
def qN4:Nat→Option (List (Nat×Nat)):=fun r=>match r with | 21=>some [(0,0),(1,0),(2,0),(3,1),(4,0),(5,0),(6,1),(7,0),(8,0),(9,0),(10,2),(11,2004),(12,1004),(13,1004),(14,0)] | _=>none
theorem qL6:qC Tryz.prog Tryz.f13.ntmps qN4 (Tryz.f13.body.getD .skip)=some qFa.erase:=by kernel_rfl
@[simp] theorem qME:zA Tryz.prog 13=true:=by kernel_rfl
@[simp] theorem qJk:zA Tryz.prog 46=true:=by kernel_rfl
theorem zKV (p:Prg)(d:Dfn)(v:Val)(y:A)(fuel fail:Int)(ds ns:List Id)(h1:ds.length≤1000000)(h2:ns.length≤1000000) :
 wpK Tryz.prog 0 zTn (fin [RS.cell 8 3 true,RS.cell 9 2 true,RS.slot 10] (zHy 0 (zEj ⟨v,zCk ds,zCk ns,fail⟩) []))
  (qR [(8,.ptr 0 0),(9,.ptr 1 0),(13,.ptr 5 0),(16,.ptr 4 0),(20,.ptr 6 0)])
  [.box [int 0,int 0,.nil],.box [.nil,.nil],.box (zU p),.box (zO d),.box (zU p++[int fuel,int fail,.clo 44 [] [.ptr 5 0,y]]),.box [.sl ds.length (zX ds),.sl ns.length (zX ns)],.box (zP v)]:=by
 have hP:=eP p;unfold zTn;simp[hP,zP];refine zAr (zIg ds h1) (by simp) (by simp) ?_;simp;refine zAr (zIg ns h2) (by simp) (by simp) ?_;simp;exact⟨by simp[zAG],by simp[zAG,zD2],by simp[zAG,zD2],zC 0 (by simp[zEj,zP])⟩
theorem zH1 {d:Dfn}(h:zA9 d.kind=true):zCi d=true:=by simp[zA9]at h;simp[zCi];omega
theorem zRr {p:Prg}{hs:List Hd}(hf:Fit p hs):zZS p:=fun d hd=>⟨(hf.slots d hd).2.1,(hf.slots d hd).2.2.2.1⟩
set_option maxHeartbeats 4000000 in
set_option maxRecDepth 100000 in
theorem zV6 {p:Prg}{hs:List Hd}(hf:Fit p hs)(id:Id)(vs:List Val)(fuel:Int)(hfu:fuel≤90000)(hz:∀v∈vs,qB v≤256∧zA4 v≤24) :
 Ret Tryz.prog 13 [.agg (zU p),.agg (qF id),.sl vs.length (zZ vs),int fuel] [] (zEj (zC9 p id vs fuel)) []:=by
 have hP:=eP p;refine zH Tryz.func13 rfl qL6 (rs:=[.cell 8 3 true,.cell 9 2 true,.slot 10]) (by kernel_rfl) ?_;unfold qFa;simp[hP,qF];refine zQ (zJm p id) (by simp[zU,qF]) (by simp[zBj]) ?_;cases hd:zAg p.defs id with
 | none =>
  rw[show zC9 p id vs fuel=⟨vz,[],[],6⟩ by simp[zC9,hd]];simp[zBj,hd,zO];exact zC 0 (by simp[zEj,zP,jX,jC,qH])
 | some d =>
 have hdm:=(zB3 hd).1;obtain⟨s1,s6,_,snd,sty⟩:=hf.slots d hdm;simp[zBj,hd,zO];refine zQ (zFt d) (by simp[zO]) (by simp) ?_;cases hb:zA9 d.kind with
 | false =>
  rw[show zC9 p id vs fuel=⟨vz,[],[],6⟩ by simp[zC9,hd,hb]];simp;exact zC 0 (by simp[zEj,zP,jX,jC,qH])
 | true =>
 by_cases hl:vs.length=d.slots.length
 ·have hfit:=fun i (hi:i<d.slots.length)=>zSA p d.slots[i].typ (vs[i]'(by omega)) (hz _ (List.getElem_mem _)).1 (hz _ (List.getElem_mem _)).2
  have hgo:∀s:XS,s.ns=[]→∀i (hi:i<d.slots.length),zG4 p s 10 d.slots[i].typ:=fun s hs0 i hi=>zVl hf s hs0 (sty _ (List.getElem_mem hi)) 10 (by omega)
  have hrl:∀i,i≤d.slots.length→RL p (zCf p (d.slots.take i) []):=by
   intro i hi;induction i with
   | zero=>exact⟨by simp[zCf],by simp[zCf]⟩
   | succ i ih =>
    have:=zFx (fun L (s:Slt)=>zAs p 10 s.typ L) [] (l:=d.slots) (i:=i) (by omega);unfold zCf at ih ⊢;rw[this];exact((hgo ⟨0,0,[],[]⟩ rfl i (by omega)) _ (ih (by omega))).1
  obtain⟨S,hS⟩:∃S:XS,S=⟨fuel,0,[],[]⟩:=⟨_,rfl⟩;have hS0:S.ns=[]:=by rw[hS]
  have hSf:S.fuel=fuel:=by rw[hS]
  have hSe:S.fail=0:=by rw[hS]
  simp[hl];intro hls;refine qY (S:=Nat) (fun i=>[(2,.sl vs.length (zZ vs)),(4,.ptr 7 0),(8,.ptr 8 0),(9,.ptr 9 0),(10,int 0),(11,.ptr 10 0),(13,.ptr 1 0),(16,.ptr 0 0),(17,.map 6),(53,.sl d.slots.length (jT d.slots)),(54,int d.slots.length),(55,int i)])
   (fun i=>rS p S (zCf p (d.slots.take i) [])++[.box (zU p),.box [int 0,int 0,.nil],.box [.nil,.nil],.box (zO d)]) (fun i=>i≤d.slots.length∧∀j (hj:j<i) (hj':j<d.slots.length),zBb p d.slots[j].typ (vs[j]'(by omega))=true) (fun i=>d.slots.length-i) 0 ⟨by omega,fun j hj=>by omega⟩
   (((zAa (l:=5) (o:=0) rfl rfl 29 3).trans (zAa (l:=5) (o:=1) rfl rfl 29 3)).trans (zR [8,5,7,10,11,6,9,0,2,3,4] 0 (by decide) (by simp) (by simp[rS,tS,hP,hS,zCf,ddL,zHa,zO]) (by simp[hl]))) ?_
  rintro i ⟨hi,hft⟩;by_cases hil:i<d.slots.length
  ·have hiv:i<vs.length:=by omega
   have hdr:=jP hil;have hdv:=yF hiv;have hfi:=hfit i hil;obtain⟨_,hro⟩:=hgo S hS0 i hil _ (hrl i (by omega));have hst:=zFx (fun L (s:Slt)=>zAs p 10 s.typ L) [] hil;change zCf p (d.slots.take (i+1)) []=zAs p 10 d.slots[i].typ (zCf p (d.slots.take i) [])at hst;generalize zCf p (d.slots.take i) []=L at hro hst ⊢;have hd0:ddL S.ns=[]:=by rw[hS0]; rfl
   cases hfv:zBb p d.slots[i].typ vs[i]with
   | false =>
    rw[hfv]at hfi;have hfl:zBk p (d.slots.map Slt.typ) vs=false:=by
     cases hq:zBk p (d.slots.map Slt.typ) vs with
     | false=>rfl
     | true =>
      have:=zFw hq i (by simpa using hil) hiv;rw[List.getElem_map,hfv]at this;cases this
    have hx:zC9 p id vs fuel=⟨vz,[],[],1⟩:=by simp[zC9,hd,hb,hl,hfl]
    rw[hx];simp[rS,tS,hP,hSf,hSe,hd0,hil,hiv,hdr,hdv,zAi];refine qO hfi (by simp[hP,zB,zP]) (by simp) ?_;simp;exact zC 0 (by simp[zEj,zP,jX,jC,qH])
   | true =>
    rw[hfv]at hfi;simp[rS,tS,hP,hSf,hSe,hd0,hil,hiv,hdr,hdv,zAi];refine qO hfi (by simp[hP,zB,zP]) (by simp) ?_;simp;refine zN hro [0,1,2,3,4,5,6] (by decide) (by simp[rS,tS,hP,hSf,hSe,hd0]) (by simp[zB]) ?_;simp[rS,tS,hP,hSf,hSe,hd0];refine zT (i+1) ⟨hil,fun j hj hj'=>?_⟩ (by omega) (zR [0,1,2,3,4,5,6,7,8,9,10] 0 (by decide) (by simp) (by simp[rS,tS,hP,hSf,hSe,hd0,hst]) (by simp[qD hil hls]));by_cases hji:j=i
    ·subst hji; exact hfv
    ·exact hft j (by omega) hj'
  ·have hie:i=d.slots.length:=by omega
   subst hie;have hfl:zBk p (d.slots.map Slt.typ) vs=true:=zHH (by simpa using hl) fun j h1 h2=>by rw[List.getElem_map];exact hft j (by simpa using h1) (by simpa using h1)
   have hx:zC9 p id vs fuel=zPf (zMz p d vs fuel):=by simp[zC9,hd,hb,hl,hfl]
   rw[hx];have htk:d.slots.take d.slots.length=d.slots:=List.take_length;have hL8:=(hrl d.slots.length (Nat.le_refl _)).len hf;rw[htk]at hL8 ⊢;have hty:TyL p (d.slots.map Slt.typ) vs:=TyL.of (by simpa using hl) fun j hj=>by rw[List.getElem_map];exact zQ6 hf (sty _ (List.getElem_mem _)) _ (hft j (by omega) (by omega))
   have hbB:zCi d=true:=zH1 hb;have hBd:Bd 100000 fuel.toNat ⟨fuel,0,zCf p d.slots [],[]⟩:=⟨by simp; omega,by simp only; omega,by simp only; omega,fun _=>by simp only; omega⟩;have hIh:=zO4 (c:=100000) hf.bods (zRr hf) (by omega) fuel.toNat;have hbo:=zQt hIh (by omega) d vs (fun _=>hl) snd s6 (fun _ _=>⟨_,_,hf.bods _ d hd hbB,EnvT.args hty fun v hv=>(hz v hv).1,zQ2 snd vs hl⟩) hBd;have hrB:=zMN hIh.bd d vs _ hBd;change Ret Tryz.prog 47 _ _ (.agg (zP (zMz p d vs fuel).1)) (tS p (zMz p d vs fuel).2)at hbo;change Bd 100000 fuel.toNat (zMz p d vs fuel).2 at hrB;generalize zMz p d vs fuel=r at *
   obtain⟨v,s⟩:=r;simp only at *
   have hd0:ddL S.ns=[]:=by rw[hS0]; rfl
   have r1:=hrB.ds;have r2:=hrB.ns;have r3:=zLU s.ns;generalize zCf p d.slots []=L at *
   simp[rS,tS,hP,hSf,hSe,hd0,zO];refine zN hbo [0,1,2,3,4,5] (by decide) (by simp[tS,hP,ddL,zHa]) (by simp[zO]) ?_;simp[tS,hP,zP];by_cases h0:s.fail=0
   ·have he:zPf (v,s)=⟨v,zCk s.ds,zCk (ddL s.ns),s.fail⟩:=by rw[zQX]; simp[zPf,h0]
    rw[he];simp[h0];have hr:=zKV p d v (.rptr [.any]) s.fuel s.fail s.ds (ddL s.ns) (by omega) (by omega);rw[h0]at hr;exact⟨_,_,zR [8,9,7,10,0,1,11] 1 (by decide) (by simp) (by simp[hP,zO,zP]) (by simp),hr⟩
   ·have he:zPf (v,s)=⟨vz,zCk s.ds,zCk (ddL s.ns),s.fail⟩:=by rw[zQX]; simp[zPf,h0]
    rw[he];simp[h0];exact⟨_,_,zR [8,9,7,10,0,1,11] 1 (by decide) (by simp) (by simp[hP,zO,zP,jX,jC,qH]) (by simp),zKV p d vz (.rptr [.any]) s.fuel s.fail s.ds (ddL s.ns) (by omega) (by omega)⟩
 ·rw[show zC9 p id vs fuel=⟨vz,[],[],1⟩ by simp[zC9,hd,hb,hl]];have hl':¬((vs.length:Int)=d.slots.length):=by omega
  simp[hl']
  intros
  exact zC 0 (by simp[zEj,zP,jX,jC,qH])
def uS (p:Prg)(F:Int)(s:XS):St:=[.box (zU p++[int F,int (F-s.fuel),int s.fail])]
@[simp] theorem qMR:zA Tryz.prog 137=true:=by kernel_rfl
@[simp] theorem qMS:zA Tryz.prog 158=true:=by kernel_rfl
@[simp] theorem qMQ:zA Tryz.prog 99=true:=by kernel_rfl
section
variable {p:Prg}{F:Int}{c:Nat}{m:Int}{ev:Evl}{e:Exp}{V:List EVar}{s:XS}
@[simp] theorem qML:zA Tryz.prog 175=true:=by kernel_rfl
@[simp] theorem qMM:zA Tryz.prog 99=true:=by kernel_rfl
end
section
variable {p:Prg}{c:Nat}{m:Int}{ev:Evl}{e:Exp}{V:List EVar}{s:XS}
@[simp] theorem qNi:zA Tryz.prog 138=true:=by kernel_rfl
section
variable {A:List Val×XS}(hA:Ret Tryz.prog 160 [.ptr 0 0,.sl e.kids.length (qU e.kids),.sl V.length (zC3 V)] (xS p s) (.sl A.1.length (zZ A.1)) (xS p A.2))
include hA
end
end
theorem zXh {p:Prg}{hs:List Hd}(hf:Fit p hs){r:Nat}{t:Typ}(ht:TyOk hs r t){x:Id}:Nam t x→x∈p.defs.map Dfn.id:=by
 induction ht with
 | int r=>intro hx; cases hx with
  | here _ h=>simp at h
  | kid _ k x h=>simp at h
 | bool r=>intro hx; cases hx with
  | here _ h=>simp at h
  | kid _ k x h=>simp at h
 | list r t h ih=>intro hx; cases hx with
  | here _ h=>simp at h
  | kid _ k x h hx' =>
   simp only[Typ.kids_mk,List.mem_singleton]at h;subst h;exact ih hx'
 | dfn r k h h1 h2 h3 h4 ih=>intro hx; cases hx with
  | here _ h' =>
   obtain⟨d,hd,_⟩:=hf.hd k h;obtain⟨a,b⟩:=zB3 hd;exact List.mem_map.2 ⟨d,a,b⟩
  | kid _ k x h=>simp at h
structure RS (p:Prg)(L:List Id):Prop where
 ss:SS L
 sub:∀x∈L,x∈p.defs.map Dfn.id
theorem RS.len {p:Prg}{hs:List Hd}(hf:Fit p hs){L:List Id}(h:RS p L):L.length≤8:=by
 have hn:L.Nodup:=by have:=h.ss;unfold SS at this;exact this.imp fun {a b} hab e=>by subst e; simp[zBC]at hab
 have:=hn.length_le_of_subset (l₂:=p.defs.map Dfn.id) h.sub;have:=hf.len8;simp at *
 omega
theorem RS.nam {p:Prg}{hs:List Hd}(hf:Fit p hs){L:List Id}(h:RS p L){r:Nat}{t:Typ}(ht:TyOk hs r t):RS p (zNK t L) :=
 ⟨zQK t L h.ss,fun x hx=>by
  rcases (zNL t L x).1 hx with hx | hx
  ·exact h.sub x hx
  ·exact zXh hf ht hx⟩
theorem RS.fold {p:Prg} {α : Type}(g : α→List Id→List Id):∀(l:List α) (L:List Id),(∀a∈l,∀L,RS p L→RS p (g a L))→RS p L→RS p (l.foldl (fun L a=>g a L) L)
 | [],L,_,h=>h
 | a::l,L,hg,h=>by rw[List.foldl_cons];exact RS.fold g l _ (fun b hb=>hg b (by simp[hb])) (hg a (by simp) L h)
@[simp] theorem qMw:zA Tryz.prog 100=true:=by kernel_rfl
section
variable {p:Prg}{F:Int}{c:Nat}{m:Int}{ev:Evl}{e:Exp}{V:List EVar}{s:XS}
@[simp] theorem qMP:zA Tryz.prog 158=true:=by kernel_rfl
section
variable {A:List Val×XS}(hA:Ret Tryz.prog 175 [.ptr 0 0,.sl e.kids.length (qU e.kids),.sl V.length (zC3 V)] (uS p F s) (.sl A.1.length (zZ A.1)) (uS p F A.2))
include hA
end
end
section
variable {p:Prg}{c:Nat}{m:Int}{ev:Evl}{e:Exp}{V:List EVar}{s:XS}
@[simp] theorem qNh:zA Tryz.prog 102=true:=by kernel_rfl
end
def zRh (d:Dfn)(L:List Id):List Id:=if d.id∈L then namS d.slots L else L
theorem RS.namS {p:Prg}{hs:List Hd}(hf:Fit p hs){ss:List Slt}(h:∀s∈ss,TyOk hs 4 s.typ){L:List Id}(hL:RS p L):RS p (namS ss L) :=
 RS.fold (fun(s:Slt) L=>zNK s.typ L) ss L (fun s hs' L hL=>hL.nam hf (h s hs')) hL
theorem RS.turn {p:Prg}{hs:List Hd}(hf:Fit p hs){d:Dfn}(hd:d∈p.defs){L:List Id}(hL:RS p L):RS p (zRh d L):=by
 unfold zRh;split
 ·exact hL.namS hf (hf.slots d hd).2.2.2.2
 ·exact hL
theorem RS.rnd {p:Prg}{hs:List Hd}(hf:Fit p hs){ds:List Dfn}(hd:∀d∈ds,d∈p.defs){L:List Id}(hL:RS p L):RS p (ds.foldl (fun L d=>zRh d L) L) :=
 RS.fold zRh ds L (fun d hd' L hL=>hL.turn hf (hd d hd')) hL
@[simp] theorem qMz:zA Tryz.prog 50=true:=by kernel_rfl
end Go.Proofs.YthglhccibdlccaaGreatDoor
