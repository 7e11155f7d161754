/-
  eval: nodes in order, bodies.
  trace: nodes.
  The reference's tracer: lists of nodes, bodies.
-/
import Derived.Test.YthglhccibdlccaaGreatDoorX24
import Derived.Test.YthglhccibdlccaaGreatDoorX41
import Derived.Test.YthglhccibdlccaaGreatDoorX43
import Derived.Test.YthglhccibdlccaaGreatDoorX40
set_option linter.unusedVariables false
set_option linter.unusedSimpArgs false
namespace Go.Proofs.YthglhccibdlccaaGreatDoor
open Go.Abs
abbrev zNL (x:Int):Value:=.iface 51 (.int .i64 x)
def eS (p:Prg)(F:Int)(s:XS):St:=[.box (zU p++[int F,int (F-s.fuel)])]
structure RP (f:FuncId)(args:List A)(p:Prg)(F:Int)(s:XS)(r:A)(s':XS):Prop where
 ret:s'.fail=0→Ret Tryz.prog f args (eS p F s) r (eS p F s')
 pan:s'.fail≠0→Pan Tryz.prog f args (eS p F s) (zNL s'.fail)
abbrev zLj (p:Prg)(F:Int)(e:Exp)(V:List EVar)(s:XS)(r:Val×XS):Prop:=RP 115 [.ptr 0 0,.agg (zF e),scE V] p F s (.agg (zI r.1)) r.2
structure IhE (p:Prg)(F m:Int)(ev:Evl):Prop where
 stop:zFf ev
 snd:Snd p ev
 fu:∀e V s,Fu m s→Fu m (ev e V s).2
 ok:∀e V s,s.fail=0→Adm p e V s→Fu m s→zLj p F e V s (ev e V s)
@[simp] theorem qKi:zA Tryz.prog 115=true:=by kernel_rfl
@[simp] theorem qKj:zA Tryz.prog 140=true:=by kernel_rfl
@[simp] theorem qKg:zA Tryz.prog 165=true:=by kernel_rfl
section
variable {p:Prg}{F m:Int}{ev:Evl}{e:Exp}{V:List EVar}{s:XS}
def qAy:K:=G [kMn 6] (G [kMn 7] (Z (G [M 10 1,kN 11 10,kMi 12 0] (K.block 0 (K.loop (G [kB 13 12 11 .lss] (Z (Y 13 ks (K.exit 0)) (Z (K.block 1 (G [kX 14 10 12 15,J 15 14 15,kZ 9 kz1,S 9 15 15] (K.ops [M 16 7,M 17 0,J 18 9 15,M 19 2,kC 20 115 [(kt 17),(kt 18),(kt 19)],kd 21 47 3 1 [ki,ki,kl] [(0,3,(kt 20))],kP 22 47 3 40 16 21,M 7 22]))) (K.ops [kBi 23 12 1 .add,M 12 23]))))))) (G [M 24 7,M 6 24] kr)))
theorem qGy:zL Tryz.prog Tryz.f164.ntmps (Tryz.f164.body.getD .skip)=some qAy.erase:=by kernel_rfl
@[simp] theorem qMJ:zA Tryz.prog 164=true:=by kernel_rfl
set_option maxHeartbeats 1000000 in
theorem zHo (h:IhE p F m ev)(V:List EVar)(l:List Exp)(hl6:l.length≤32768)(hs:s.fail=0)(hA:∀k∈l,∀s,Adm p k V s)(hB:Fu m s) :
 RP 164 [.ptr 0 0,.sl l.length (qL l),scE V] p F s (.sl l.length (zV (qK ev V l s).1)) (qK ev V l s).2:=by
 have hP:=eP p;have hst:∀i,Fu m (qK ev V (l.take i) s).2:=fun i=>zFn h.fu V _ _ hB
 have hln:∀i,i≤l.length→(qK ev V (l.take i) s).1.length=i:=fun i hi=>by rw[zBN,List.length_take]; omega
 have h00:qK ev V [] s=([],s):=rfl;have htk:l.take l.length=l:=List.take_length;constructor
 ·intro hf;have hpre:∀i,i≤l.length→(qK ev V (l.take i) s).2.fail=0:=fun i hi=>zJG h.stop V l s i l.length hi (by rw[htk]; exact hf)
  refine zK Tryz.func164 rfl qGy (rs:=[.slot 6]) (by kernel_rfl) ?_;unfold qAy;simp[eS,hP];intro hl;refine qZ (S:=Nat) (fun i=>[(0,.ptr 0 0),(2,scE V),(7,.row 1 i),(10,.sl l.length (qL l)),(11,int l.length),(12,int i)])
   (fun i=>eS p F (qK ev V (l.take i) s).2++[.row false 47 3 i (zV (qK ev V (l.take i) s).1)]) (fun i=>i≤l.length) (fun i=>l.length-i) 0 (by simp)
   ((yA (t:=7) (by simp) 47 3).trans (zS [0,1] 0 (by decide) (by simp) (by simp[eS,hP,h00]) (by simp))) ?_
  intro i hi;by_cases hil:i<l.length
  ·have hsn:=zFQ ev V l[i] (l.take i) s;rw[←List.take_succ_eq_append_getElem hil]at hsn;have hp1:=hpre (i+1) hil;rw[hsn]at hp1;have hr:=(h.ok l[i] V (qK ev V (l.take i) s).2 (hpre i hi) (hA _ (List.getElem_mem hil) _) (hst i)).ret hp1;have hdr:=yJ hil;have hln:=hln i hi;generalize hFn:qK ev V (l.take (i+1)) s=Fn at hsn;subst hsn;generalize hFi:qK ev V (l.take i) s=Fi at *
   obtain⟨vs,si⟩:=Fi;simp only at *
   generalize ev l[i] V si=rk at *
   obtain⟨v,sk⟩:=rk;simp only at *
   simp[eS,hP,hil,hdr,hFi,zF];refine zN hr [0] (by decide) (by simp[eS,hP]) (by simp[zF]) ?_;simp[eS,hP,zI];refine⟨⟨by simp[maxLen]; omega,by omega⟩,?_⟩;exact zT (i+1) hil (by omega) (zS [0,1] 0 (by decide) (by simp) (by simp[eS,hP,hFn,zAK]) (by simp[qB hil hl]))
  ·have hil:i=l.length:=by omega
   subst hil;rw[htk];generalize qK ev V l s=Fi at *
   obtain⟨vs,si⟩:=Fi;simp;exact zG [0] 1 (by decide) (by simp) (by simp[eS,hP]) (by simp[eS,hP])
 ·intro hf;obtain⟨k,hk,hk0,hk1⟩:=zJF h.stop V l s hs hf;have hpre:∀i,i≤k→(qK ev V (l.take i) s).2.fail=0:=fun i hi=>zJG h.stop V l s i k hi hk0
  rw[←hk1]at hf ⊢;refine zEm Tryz.func164 rfl qGy (rs:=[.slot 6]) (by kernel_rfl) ?_;unfold qAy wpF;simp[eS,hP];intro hl;refine qZ (S:=Nat) (fun i=>[(0,.ptr 0 0),(2,scE V),(7,.row 1 i),(10,.sl l.length (qL l)),(11,int l.length),(12,int i)])
   (fun i=>eS p F (qK ev V (l.take i) s).2++[.row false 47 3 i (zV (qK ev V (l.take i) s).1)]) (fun i=>i≤k) (fun i=>l.length-i) 0 (by simp)
   ((yA (t:=7) (by simp) 47 3).trans (zS [0,1] 0 (by decide) (by simp) (by simp[eS,hP,h00]) (by simp))) ?_
  intro i hi;have hil:i<l.length:=by omega
  have hdr:=yJ hil;have hok:=h.ok l[i] V (qK ev V (l.take i) s).2 (hpre i hi) (hA _ (List.getElem_mem hil) _) (hst i);by_cases hik:i<k
  ·have hsn:=zFQ ev V l[i] (l.take i) s;rw[←List.take_succ_eq_append_getElem hil]at hsn;have hp1:=hpre (i+1) hik;rw[hsn]at hp1;have hr:=hok.ret hp1;have hln:=hln i (by omega);generalize hFn:qK ev V (l.take (i+1)) s=Fn at hsn;subst hsn;generalize hFi:qK ev V (l.take i) s=Fi at *
   obtain⟨vs,si⟩:=Fi;simp only at *
   generalize ev l[i] V si=rk at *
   obtain⟨v,sk⟩:=rk;simp only at *
   simp[eS,hP,hil,hdr,hFi,zF];refine zN hr [0] (by decide) (by simp[eS,hP]) (by simp[zF]) ?_;simp[eS,hP,zI];refine⟨⟨by simp[maxLen]; omega,by omega⟩,?_⟩;exact zT (i+1) hik (by omega) (zS [0,1] 0 (by decide) (by simp) (by simp[eS,hP,hFn,zAK]) (by simp[qB hil hl]))
  ·have hik:i=k:=by omega
   subst hik;have hr:=hok.pan hf;generalize hFi:qK ev V (l.take i) s=Fi at *
   obtain⟨vs,si⟩:=Fi;simp only at *
   simp[eS,hP,hil,hdr,hFi,zF];refine zHh hr [0] (by decide) (by simp[eS,hP]) (by simp[zF]) fun τ=>?_
   simp
def qAz:K:=G [kO 4 1,kZ 6 [ki,ki,kl]] (G [⟨none,.mov (some 7) (.const (.pointer none))⟩] (Z (G [D 10 4 8,L 11 10 1,kN 12 11,kMi 13 0] (K.block 0 (K.loop (G [kB 14 13 12 .lss] (Z (Y 14 ks (K.exit 0)) (Z (K.block 1 (G [M 15 13,kX 16 11 13 11,J 17 16 11,kZ 9 kz5,M 8 15,S 9 17 11] (K.dops [(0,0,M 18 7),(1,0,D 19 9 0),(2,0,J 20 19 3),(3,0,M 21 2),(4,0,M 22 8),(5,0,kX 23 21 22 3),(6,0,J 24 23 3),(7,0,kC 25 114 [(kt 18),(kt 20),(kc 0),(kt 24)]),(8,0,M 7 25)]))) (K.ops [kBi 26 13 1 .add,M 13 26]))))))) (G [M 27 0,D 28 4 14,J 29 28 15,M 30 7,kC 31 115 [(kt 27),(kt 29),(kt 30)],S 6 31 3] kr)))
theorem qGz:zL Tryz.prog Tryz.f68.ntmps (Tryz.f68.body.getD .skip)=some qAz.erase:=by kernel_rfl
@[simp] theorem qMM:zA Tryz.prog 68=true:=by kernel_rfl
set_option maxHeartbeats 1000000 in
theorem zNG (h:IhE p F m ev)(d:Dfn)(vs:List Val)(hl:vs.length=d.slots.length)(hd6:d.slots.length≤6)(hs:s.fail=0)(hA:Adm p d.body (zBF d.slots vs) {s with ds:=s.ds++[d.id]})(hB:Fu m s) :
 RP 68 [.ptr 0 0,.agg (zP d),.sl vs.length (zV vs)] p F s (.agg (zI (zA6 ev d vs s).1)) (zA6 ev d vs s).2:=by
 have hP:=eP p;have hx:zA6 ev d vs s=ev d.body (zBF d.slots vs) {s with ds:=s.ds++[d.id]}:=by unfold zA6; rw[if_neg (by simp[hs])]
 rw[hx];have he:=h.ok _ _ _ (by exact hs) hA ((zKj m).dfn d.id s hB);generalize ev d.body (zBF d.slots vs) {s with ds:=s.ds++[d.id]}=r at *
 have hel:=zFy d.slots vs hl;have hall:(zBF d.slots vs).take d.slots.length=zBF d.slots vs:=by rw[←hel]; exact List.take_length
 constructor
 ·intro hf;refine zK Tryz.func68 rfl qGz (rs:=[.cell 6 3 true]) (by kernel_rfl) ?_;unfold qAz;simp[eS,hP,zP];intro hls;refine qZ (S:=Nat) (fun i=>[(0,.ptr 0 0),(2,.sl vs.length (zV vs)),(4,.ptr 1 0),(6,.ptr 2 0),(7,scE ((zBF d.slots vs).take i)),(11,.sl d.slots.length (jU d.slots)),(12,int d.slots.length),(13,int i)])
   (fun i=>eS p F s++[.box (zP d),.box [int 0,int 0,.nil]]) (fun i=>i≤d.slots.length) (fun i=>d.slots.length-i) 0 (by simp)
   (zS [0,1,2] 0 (by decide) (by simp) (by simp[eS,hP,zP]) (by simp)) ?_
  intro i hi;by_cases hil:i<d.slots.length
  ·have hiv:i<vs.length:=by omega
   have hdr:=jL hil;have hdv:=jD hiv;have htk:=zIj hl hil;have hw:=zCp ((zBF d.slots vs).take i).reverse ⟨d.slots[i].id,0,vs[i]⟩;simp[eS,hP,hil,hiv,hdr,hdv,zAd];refine qE hw (by simp[qX,zI]) (by simp) ?_;simp;exact zT (i+1) hil (by omega) (zS [0,1,2] 0 (by decide) (by simp) (by simp[eS,hP,zP]) (by simp[qB hil hls,htk]))
  ·have hil:i=d.slots.length:=by omega
   subst hil;rw[hall];simp[eS,hP,zP];refine zN (he.ret hf) [0] (by decide) (by simp[eS,hP]) (by simp[zF]) ?_;simp[eS,hP,zI];exact zG [0] 0 (by decide) (by simp) (by simp) (by simp[zI])
 ·intro hf;refine zEm Tryz.func68 rfl qGz (rs:=[.cell 6 3 true]) (by kernel_rfl) ?_;unfold qAz wpF;simp[eS,hP,zP];intro hls;refine qZ (S:=Nat) (fun i=>[(0,.ptr 0 0),(2,.sl vs.length (zV vs)),(4,.ptr 1 0),(6,.ptr 2 0),(7,scE ((zBF d.slots vs).take i)),(11,.sl d.slots.length (jU d.slots)),(12,int d.slots.length),(13,int i)])
   (fun i=>eS p F s++[.box (zP d),.box [int 0,int 0,.nil]]) (fun i=>i≤d.slots.length) (fun i=>d.slots.length-i) 0 (by simp)
   (zS [0,1,2] 0 (by decide) (by simp) (by simp[eS,hP,zP]) (by simp)) ?_
  intro i hi;by_cases hil:i<d.slots.length
  ·have hiv:i<vs.length:=by omega
   have hdr:=jL hil;have hdv:=jD hiv;have htk:=zIj hl hil;have hw:=zCp ((zBF d.slots vs).take i).reverse ⟨d.slots[i].id,0,vs[i]⟩;simp[eS,hP,hil,hiv,hdr,hdv,zAd];refine qE hw (by simp[qX,zI]) (by simp) ?_;simp;exact zT (i+1) hil (by omega) (zS [0,1,2] 0 (by decide) (by simp) (by simp[eS,hP,zP]) (by simp[qB hil hls,htk]))
  ·have hil:i=d.slots.length:=by omega
   subst hil;rw[hall];simp[eS,hP,zP];refine zHh (he.pan hf) [0] (by decide) (by simp[eS,hP]) (by simp[zF]) fun τ=>?_
   simp
end
section
variable {p:Prg}{c:Nat}{m:Int}{ev:Evl}{e:Exp}{V:List EVar}{s:XS}
theorem zSX (hk:e.k=0):zPl p e V s (.mk 0 e.n [],s):=by have hP:=eP p;refine zH Tryz.func129 rfl zTQ (rs:=[.cell 6 3 true]) (by kernel_rfl) ?_;unfold zRE;simp[tE,tS,hP,zF,hk];exact zG [0,1,2,3,4,5,6] 0 (by decide) (by simp) (by simp) (by simp[zI,qG,zY,zM])
theorem zQz (hk:e.k=1):zPl p e V s (.mk 1 e.n [],s):=by have hP:=eP p;refine zH Tryz.func129 rfl zTQ (rs:=[.cell 6 3 true]) (by kernel_rfl) ?_;unfold zRE;simp[tE,tS,hP,zF,hk];exact zG [0,1,2,3,4,5,6] 0 (by decide) (by simp) (by simp) (by simp[zI,qG,zY,zM])
theorem zSY {v:Val}(hk:e.k=2)(hf:zA1 [e.ref.a,e.ref.b,e.ref.c,e.n] (zDA V)=some (.agg [.lit (.int .i64 v.k),.lit (.int .i64 v.n),.sl v.kids.length (zV v.kids)])):zPl p e V s (v,s):=by have hP:=eP p;refine zH Tryz.func129 rfl zTQ (rs:=[.cell 6 3 true]) (by kernel_rfl) ?_;unfold zRE;simp[tE,tS,hP,zF,hk,hf];exact zG [0,1,2,3,4,5,6] 0 (by decide) (by simp) (by simp) (by simp[zI])
theorem zFM (hk:e.k=5∨e.k=6∨e.k=8∨e.k=10∨e.k=12)(hb:zGY p ev e V s):zPl p e V s (jA ev e V s):=by have hP:=eP p;unfold zGY at hb;generalize jA ev e V s=r at hb;refine zH Tryz.func129 rfl zTQ (rs:=[.cell 6 3 true]) (by kernel_rfl) ?_;unfold zRE;rcases hk with hk | hk | hk | hk | hk<;>simp[tE,tS,hP,zF,hk]<;>refine zN hb [0,1,2,3,4,5,6] (by decide) (by simp[tE,tS,hP]) (by simp[zF,hk]) ?_<;>simp[tE,tS,hP,zI]<;>exact zG [0,1,2,3,4,5,6] 0 (by decide) (by simp) (by simp) (by simp[zI])
def zTE (p:Prg):Prop:=∀d∈p.defs,d.slots.length≤6∧d.slots.Pairwise fun a b=>a.id≠b.id
theorem zJ2 {ss:List Slt}(hnd:ss.Pairwise fun a b=>a.id≠b.id)(vs:List Val)(hl:vs.length=ss.length):NdV (zBF ss vs):=by
 unfold NdV;rw[List.pairwise_iff_getElem];intro i j hi hj hij e;have hi':i<ss.length:=by rw[zFy ss vs hl]at hi; exact hi
 have hj':j<ss.length:=by rw[zFy ss vs hl]at hj; exact hj
 have:=List.pairwise_iff_getElem.1 hnd i j hi' hj' hij;have e1:(zBF ss vs)[i].id=ss[i].id:=by simp[zBF]
 have e2:(zBF ss vs)[j].id=ss[j].id:=by simp[zBF]
 exact this (by rw[←e1,←e2]; exact e.1)
theorem zSV (hp:zPf p)(hsl:zTE p)(h:Ih p c m ev)(hc:c≤100000){B:List Bnd}{t:Typ}(he:WE p B e t)(hV:EnvT p B V)(hN:NdV V)(hB:Bd c m s):zPl p e V s (qJ p 1 ev e V s):=by
 cases he with
 | int _ i n r u ns h1 h2=>exact zSX rfl
 | bool _ i n r u ns h1=>exact zQz rfl
 | var _ i n r u ns _ hl=>exact zSY (e:=.mk i 2 n r u [] ns) rfl (hV.get hN hl)
 | call _ i n r u ks ns hn d hd hk hl hw =>
  have e1:qJ p 1 ev (.mk i 3 n r u ks ns) V s=zA6 ev d (qK ev V ks s).1 (qK ev V ks s).2:=by simp[qJ,dfn,hd]
  rw[e1];have hB1:=zJ0 h.bd V ks s hB;have hdm:=(zAC hd).1;refine zD7 h (.inl rfl) hn (fun k hk s=>?_) hB ?_
  ·obtain⟨j,hj,rfl⟩:=List.getElem_of_mem hk;exact .of (hw j hj) hV hN
  ·simp only[Exp.kids_mk];by_cases hf:(qK ev V ks s).2.fail=0
   ·obtain⟨ht,hz⟩:=zDf h.stop h.snd hV ks _ s hl hw hf;have hlen:=ht.len;rw[List.length_map]at hlen;exact zSL hf rfl hd (zQM h hc d _ (fun _=>hlen) (hsl d hdm).2 (hsl d hdm).1 (fun _ _=>⟨_,_,hp r d hd (by simp[zBL,hk]),EnvT.args ht hz,zJ2 (hsl d hdm).2 _ hlen⟩) hB1)
   ·have e2:zA6 ev d (qK ev V ks s).1 (qK ev V ks s).2=(vz,(qK ev V ks s).2):=by unfold zA6; rw[if_pos hf]
    rw[e2];exact zEo hf
 | op _ i n r u ks ns hn ts _ ho hl hw =>
  have e1:qJ p 1 ev (.mk i 4 n r u ks ns) V s=(zf true (qK ev V ks s).2 (opV n (qK ev V ks s).1),(qK ev V ks s).2):=by simp[qJ]
  rw[e1];refine zD7 h (.inr (.inl rfl)) hn (fun k hk s=>?_) hB ?_
  ·obtain⟨j,hj,rfl⟩:=List.getElem_of_mem hk;exact .of (hw j hj) hV hN
  ·simp only[Exp.kids_mk];by_cases hf:(qK ev V ks s).2.fail=0
   ·obtain⟨ht,hz⟩:=zDf h.stop h.snd hV ks _ s hl hw hf;rw[zEx hf];exact zYp (e:=.mk i 4 n r u ks ns) hf rfl ho ht hz
   ·have e2:zf true (qK ev V ks s).2 (opV n (qK ev V ks s).1)=vz:=by simp[zf,hf]
    rw[e2];exact zEo hf
 | record _ i n r u ks ns hn d hd hk hl hw =>
  have e1:qJ p 1 ev (.mk i 7 n r u ks ns) V s=(zf true (qK ev V ks s).2 (.mk 2 0 (qK ev V ks s).1),(qK ev V ks s).2):=by simp[qJ]
  rw[e1];refine zD7 h (.inr (.inr (.inl rfl))) hn (fun k hk s=>?_) hB ?_
  ·obtain⟨j,hj,rfl⟩:=List.getElem_of_mem hk;exact .of (hw j hj) hV hN
  ·simp only[Exp.kids_mk];by_cases hf:(qK ev V ks s).2.fail=0
   ·rw[zEx hf]; exact zVK hf rfl
   ·have e2:∀v,zf true (qK ev V ks s).2 v=vz:=fun v=>by simp[zf,hf]
    rw[e2];exact zEo hf
 | case _ i r u a ns d j hd hk hj ha =>
  have e1:qJ p 1 ev (.mk i 9 j r u [a] ns) V s=(zf true (qK ev V [a] s).2 (.mk 3 j (qK ev V [a] s).1),(qK ev V [a] s).2):=by simp[qJ]
  rw[e1];refine zD7 h (.inr (.inr (.inr (.inl rfl)))) (by simp) (fun k hk s=>?_) hB ?_
  ·simp only[Exp.kids_mk,List.mem_singleton]at hk;subst hk;exact .of ha hV hN
  ·simp only[Exp.kids_mk];by_cases hf:(qK ev V [a] s).2.fail=0
   ·rw[zEx hf]; exact zSM (e:=.mk i 9 j r u [a] ns) hf rfl
   ·have e2:∀v,zf true (qK ev V [a] s).2 v=vz:=fun v=>by simp[zf,hf]
    rw[e2];exact zEo hf
 | list _ i n r u ks ns t hn hw =>
  have e1:qJ p 1 ev (.mk i 11 n r u ks ns) V s=(zf true (qK ev V ks s).2 (.mk 4 0 (qK ev V ks s).1),(qK ev V ks s).2):=by simp[qJ]
  rw[e1];refine zD7 h (.inr (.inr (.inr (.inr rfl)))) hn (fun k hk s=>?_) hB ?_
  ·obtain⟨j,hj,rfl⟩:=List.getElem_of_mem hk;exact .of (hw j hj) hV hN
  ·simp only[Exp.kids_mk];by_cases hf:(qK ev V ks s).2.fail=0
   ·rw[zEx hf]; exact zSN hf rfl
   ·have e2:∀v,zf true (qK ev V ks s).2 v=vz:=fun v=>by simp[zf,hf]
    rw[e2];exact zEo hf
 | ite _ i n r u a b c ns _ ha hb hc =>
  have e1:qJ p 1 ev (.mk i 5 n r u [a,b,c] ns) V s=jA ev (.mk i 5 n r u [a,b,c] ns) V s:=by simp[qJ]
  rw[e1];exact zFM (.inl rfl) (zPo h rfl rfl ha hb hc hV hN hB.bn)
 | lets _ i n r u a b ns v _ hfr ha hb =>
  have e1:qJ p 1 ev (.mk i 6 n r u [a,b] ns) V s=jA ev (.mk i 6 n r u [a,b] ns) V s:=by simp[qJ]
  rw[e1];exact zFM (.inr (.inl rfl)) (zPp h rfl rfl hfr ha hb hV hN hB.bn)
 | field _ i r u a ns d j hd hk hj ha =>
  have e1:qJ p 1 ev (.mk i 8 j r u [a] ns) V s=jA ev (.mk i 8 j r u [a] ns) V s:=by simp[qJ]
  rw[e1];exact zFM (.inr (.inr (.inl rfl))) (zM2 h rfl rfl rfl hd hk hj ha hV hN hB.bn)
 | mtch _ i n r u a ks ns d _ hfr hd hk hl ha hw =>
  have e1:qJ p 1 ev (.mk i 10 n r u (a::ks) ns) V s=jA ev (.mk i 10 n r u (a::ks) ns) V s:=by simp[qJ]
  rw[e1];exact zFM (.inr (.inr (.inr (.inl rfl)))) (zM3 h rfl rfl hfr hd hk hl (by have:=(hsl d (zAC hd).1).1; omega) ha hw hV hN hB.bn)
 | fold _ i n r u l s' b ns v _ hfr hl' hs' hb =>
  have e1:qJ p 1 ev (.mk i 12 n r u [l,s',b] ns) V s=jA ev (.mk i 12 n r u [l,s',b] ns) V s:=by simp[qJ]
  rw[e1];exact zFM (.inr (.inr (.inr (.inr rfl)))) (zN1 h rfl rfl hfr hl' hs' hb hV hN hB.bn)
def zWx:K:=G [kO 4 1,kZ 6 [ki,ki,kl]] (Z (G [M 8 0,kU 9 8,D 10 9 3,L 11 10 1,kQi 12 11 0 true] (Y 12 (G [kb 13 [ki,ki,kl] [],S 6 13 3] kr) ks)) (Z (G [M 14 0,kU 15 14,D 16 15 2,L 17 16 1,kBi 18 17 0 .leq] (Y 18 (G [M 19 0,kU 20 19,D 21 20 3,⟨none,.st none (kt 21) (kc 18) 1⟩] (G [kb 22 [ki,ki,kl] [],S 6 22 3] kr)) ks)) (G [M 23 0,kU 24 23,D 25 24 2,L 26 25 1,kBi 27 26 1 .sub,kU 28 23,D 29 28 2,S 29 27 1] (Z (K.dops [(0,0,M 30 0),(1,0,kU 31 30),(2,0,D 32 31 4),(3,0,L 33 32 1),(4,0,D 34 4 0),(5,0,J 35 34 3),(6,4,⟨none,.call (some 36) (kt 33) [(.const (.bool false)),(kt 35)]⟩)]) (G [M 37 0,J 38 4 15,M 39 2,kC 40 129 [(kt 37),(kt 38),(kt 39)],kZ 7 [ki,ki,kl],S 7 40 3] (Z (G [M 41 0,kU 42 41,D 43 42 3,L 44 43 1,kQi 45 44 0 false,M 46 45,T 46 true (J 47 7 3),T 46 true (kC 48 130 [(kt 47)]),T 46 true (kBi 49 48 256 .gtr),T 46 true (M 50 49),T 50 false (J 51 7 3),T 50 false (kC 52 131 [(kt 51)]),T 50 false (kBi 53 52 24 .gtr),T 46 true (kPt 54 50 53),kPf 55 46 54] (Y 55 (K.ops [M 56 0,kU 57 56,D 58 57 3,⟨none,.st none (kt 58) (kc 4) 1⟩]) ks)) (G [J 59 7 3,S 6 59 3] kr)))))))
def qO8:Nat→Option (List (Nat×Nat)):=fun r=>match r with | 7=>some [(0,0),(1,0),(2,0),(3,0),(4,0),(5,0),(6,4)] | _=>none
theorem qAK:qC Tryz.prog Tryz.f93.ntmps qO8 (Tryz.f93.body.getD .skip)=some zWx.erase:=by kernel_rfl
@[simp] theorem qNI:zA Tryz.prog 93=true:=by kernel_rfl
theorem zOv (hf:s.fail≠0):TOk p (vz,s) e V s:=by have hP:=eP p;refine zH Tryz.func93 rfl qAK (rs:=[.cell 6 3 true]) (by kernel_rfl) ?_;unfold zWx;simp[tE,tS,hP,zF,hf];exact zG [0,1,2,3,4,5,6] 0 (by decide) (by simp) (by simp) (by simp[zI,qG,zY,zM])
theorem zOw (hf:s.fail=0)(hu:s.fuel≤0):TOk p (vz,{s with fail:=zFv}) e V s:=by have hP:=eP p;refine zH Tryz.func93 rfl qAK (rs:=[.cell 6 3 true]) (by kernel_rfl) ?_;unfold zWx;simp[tE,tS,hP,zF,hf,hu];exact zG [0,1,2,3,4,5,6] 0 (by decide) (by simp) (by simp) (by simp[zI,qG,zY,zM])
set_option maxHeartbeats 1000000 in
theorem zXR {r:Val×XS}(hc:c≤100000)(hf:s.fail=0)(hu:¬s.fuel≤0)(hB:Bn c m s)(hv:zPl p e V (zD4 e s) r):TOk p (zLs 1 r) e V s:=by
 have hP:=eP p;have hw:IntKind.i64.wrap (s.fuel-1)=s.fuel-1:=IntWalk.i64_in _ (by have:=hB.ns; omega);have b1:=hB.ns;have b2:=hB.ds;have b3:=zMA s.ns;have hn:=zMU false e.id s.ds (ddL s.ns) (by omega) (by omega);simp only[Bool.false_eq_true,if_false,←zJT]at hn;have ht:zD4 e s=⟨s.fuel-1,s.fail,s.ds,s.ns++[e.id]⟩:=rfl;rw[ht,hf]at hv;have he:zLs 1 r=(r.1,zB8 r):=by simp[zLs,zf]
 rw[he];refine zH Tryz.func93 rfl qAK (rs:=[.cell 6 3 true]) (by kernel_rfl) ?_;unfold zWx;simp[tE,tS,hP,zF,hf,hu,hw];refine zAr hn [1,2,3,4,5] (by decide) (by simp[nS]) (by simp[qX]) ?_;simp[nS];refine zN hv [0,1,2,3,4,5,6] (by decide) (by simp[tE,tS,hP]) (by simp[zF]) ?_;simp[tE,tS,hP,zI];by_cases h0:r.2.fail=0
 ·simp[h0];refine zR (zJA r.1) (by simp[zI]) (by simp) ?_;by_cases h1:256<zDc r.1
  ·have hl:zB8 r={r.2 with fail:=zFw}:=by unfold zB8; rw[if_pos ⟨h0,.inl h1⟩]
   simp[h1];exact zG [0,1,2,3,4,5,6] 0 (by decide) (by simp) (by simp[hl,zFw]) (by simp[zI])
  ·simp[h1];refine zR (zQV r.1) (by simp[zI]) (by simp) ?_;by_cases h2:24<zB5 r.1
   ·have hl:zB8 r={r.2 with fail:=zFw}:=by unfold zB8; rw[if_pos ⟨h0,.inr h2⟩]
    simp[h2];exact zG [0,1,2,3,4,5,6] 0 (by decide) (by simp) (by simp[hl,zFw]) (by simp[zI])
   ·have hl:zB8 r=r.2:=by unfold zB8; rw[if_neg fun h=>h.2.elim h1 h2]
    simp[h2];exact zG [0,1,2,3,4,5,6] 0 (by decide) (by simp) (by simp[hl,h0]) (by simp[zI])
 ·have hl:zB8 r=r.2:=by unfold zB8; rw[if_neg fun h=>h0 h.1]
  simp[h0];exact zG [0,1,2,3,4,5,6] 0 (by decide) (by simp) (by simp[hl]) (by simp[zI])
theorem zOX (hp:zPf p)(hsl:zTE p)(hc:c≤100000):∀n:Nat,Ih p c n (zAs p 1 n)
 | 0=>⟨zAN p 1 0,zFA hp 1 0,zH8 1 0,fun e V s hA hB=>by
  rw[zAs];have hu:=hB.fu;split
  ·rename_i hf; exact zOv hf
  ·rename_i hf; exact zOw (by omega) (by omega)⟩
 | n+1=>⟨zAN p 1 (n+1),zFA hp 1 (n+1),zH8 1 (n+1),fun e V s hA hB=>by
  rw[zAs];split
  ·rename_i hf; exact zOv hf
  ·rename_i hf;have hf:s.fail=0:=by omega
   split
   ·rename_i hu; exact zOw hf hu
   ·rename_i hu;obtain⟨B,t,he,hV,hN⟩:=hA hf;have ht:=hB.tick e hu;have:((n+1:Nat):Int)-1=n:=by omega
    rw[this]at ht;exact zXR hc hf hu hB (zSV hp hsl (zOX hp hsl hc n) hc he hV hN ht)⟩
end
def xS (p:Prg)(s:XS):St:=[.box (zU p++[int s.fuel,int s.fail,.sl (zBJ s.ds).length (qF (zBJ s.ds)),.sl (zBJ s.ns).length (qF (zBJ s.ns))])]
@[simp] theorem qOm:zA Tryz.prog 102=true:=by kernel_rfl
@[simp] theorem qOn:zA Tryz.prog 138=true:=by kernel_rfl
@[simp] theorem qOl:zA Tryz.prog 51=true:=by kernel_rfl
section
variable {p:Prg}{c:Nat}{m:Int}{ev:Evl}{e:Exp}{V:List EVar}{s:XS}
@[simp] theorem qOg:zA Tryz.prog 160=true:=by kernel_rfl
@[simp] theorem qOh:zA Tryz.prog 51=true:=by kernel_rfl
end
end Go.Proofs.YthglhccibdlccaaGreatDoor
