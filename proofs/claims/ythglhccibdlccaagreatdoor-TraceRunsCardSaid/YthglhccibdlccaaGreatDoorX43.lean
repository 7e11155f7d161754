/-
  trace: branches.
  trace: bodies, values, nodes.
-/
import Derived.Test.YthglhccibdlccaaGreatDoorX42
import Derived.Test.YthglhccibdlccaaGreatDoorX23
set_option linter.unusedVariables false
set_option linter.unusedSimpArgs false
namespace Go.Proofs.YthglhccibdlccaaGreatDoor
open Go.Abs
def Adm (p:Prg)(e:Exp)(V:List EVar)(s:XS):Prop:=s.fail=0→∃B t,WE p B e t∧EnvT p B V∧NdV V
structure Ih (p:Prg)(c:Nat)(m:Int)(ev:Evl):Prop where
 stop:zFf ev
 snd:Snd p ev
 bd:∀e V s,Bn c m s→Bd c m (ev e V s).2
 ok:∀e V s,Adm p e V s→Bn c m s→TOk p (ev e V s) e V s
section
variable {p:Prg}{c:Nat}{m:Int}{ev:Evl}{B:List Bnd}{e:Exp}{V:List EVar}{s:XS}
theorem Adm.of {t:Typ}(h:WE p B e t)(hV:EnvT p B V)(hN:NdV V):Adm p e V s:=fun _=>⟨B,t,h,hV,hN⟩
theorem Adm.bad (h:s.fail≠0):Adm p e V s:=fun e=>(h e).elim
def zPj:K:=G [kO 4 1,kZ 6 [ki,ki,kl]] (G [M 13 0,D 14 4 13,L 15 14 1,kXi 16 15 15 0,J 17 16 15,M 18 2,kC 19 93 [(kt 13),(kt 17),(kt 18)],kZ 7 [ki,ki,kl],S 7 19 3] (Z (G [M 20 0,kU 21 20,D 22 21 3,L 23 22 1,kQi 24 23 0 true] (Y 24 (G [kb 25 [ki,ki,kl] [],S 6 25 3] kr) ks)) (Z (G [D 26 4 3,L 27 26 1] (K.block 0 (G [kQi 29 27 5 false,M 28 29] (Y 28 (Z (G [D 30 7 1,L 31 30 1,kQi 32 31 1 false] (Y 32 (G [M 33 0,D 34 4 13,L 35 34 1,kXi 36 35 15 1,J 37 36 15,M 38 2,kC 39 93 [(kt 33),(kt 37),(kt 38)],S 6 39 3] kr) ks)) (G [M 40 0,D 41 4 13,L 42 41 1,kXi 43 42 15 2,J 44 43 15,M 45 2,kC 46 93 [(kt 40),(kt 44),(kt 45)],S 6 46 3] kr)) (G [kQi 48 27 6 false,M 47 48] (Y 47 (Z (K.dops [(0,0,M 49 0),(1,0,D 50 4 13),(2,0,L 51 50 1),(3,0,kXi 52 51 15 1),(4,0,J 53 52 15),(5,0,M 54 2),(6,0,D 55 4 0),(7,0,J 56 55 3),(8,0,kb 57 zGv [(0,3,(kt 56)),(3,1,(kc 0))]),(9,0,J 58 7 3),(10,4,kC 59 166 [(kt 49),(kt 53),(kt 54),(kt 57),(kt 58)]),(11,0,S 6 59 3)]) kr) (G [kQi 61 27 8 false,M 60 61] (Y 60 (G [D 62 7 2,L 63 62 1,D 64 4 4,L 65 64 1,kX 66 63 65 3,J 67 66 3,S 6 67 3] kr) (G [kQi 69 27 10 false,M 68 69] (Y 68 (Z (K.dops [(0,0,M 70 0),(1,0,D 71 4 13),(2,0,L 72 71 1),(3,0,D 73 7 1),(4,0,L 74 73 1),(5,0,⟨none,.bin (some 75) .add (kc 1) (kt 74)⟩),(6,0,kX 76 72 75 15),(7,0,J 77 76 15),(8,0,M 78 2),(9,0,D 79 4 0),(10,0,J 80 79 3),(11,0,D 81 7 1),(12,0,L 82 81 1),(13,0,kb 83 zGv [(0,3,(kt 80)),(3,1,(kt 82))]),(14,0,D 84 7 2),(15,0,L 85 84 1),(16,0,kXi 86 85 3 0),(17,0,
 J 87 86 3),(18,4,kC 88 166 [(kt 70),(kt 77),(kt 78),(kt 83),(kt 87)]),(19,0,S 6 88 3)]) kr) ks)))))))))) (G [M 89 0,D 90 4 13,L 91 90 1,kXi 92 91 15 1,J 93 92 15,M 94 2,kC 95 93 [(kt 89),(kt 93),(kt 94)],kZ 8 [ki,ki,kl],S 8 95 3] (Z (G [D 96 7 2,L 97 96 1,kN 98 97,kMi 99 0] (K.block 1 (K.loop (G [kB 100 99 98 .lss] (Z (Y 100 ks (K.exit 1)) (Z (K.block 2 (G [kX 101 97 99 3,J 102 101 3,kZ 10 [ki,ki,kl],S 10 102 3] (G [J 103 8 3,kZ 11 [ki,ki,kl],S 11 103 3] (G [D 104 4 0,J 105 104 3,kb 106 zGv [(0,3,(kt 105)),(3,1,(kc 0))],kZ 12 zGv,S 12 106 4] (G [M 107 2,J 108 12 4,J 109 10 3,⟨none,.mop none (.set 4) [(kt 107),(kt 108),(kt 109)]⟩] (Z (K.dops [(0,0,M 110 0),(1,0,D 111 4 13),(2,0,L 112 111 1),(3,0,kXi 113 112 15 2),(4,0,J 114 113 15),(5,0,M 115 2),(6,0,D 116 4 0),(7,0,J 117 116 3),(8,0,kb 118 zGv [(0,3,(kt 117)),(3,1,(kc 1))]),(9,0,J 119 11 3),(10,4,kC 120 166 [(kt 110),(kt 114),(kt 115),(kt 118),(kt 119)]),(11,0,S 8 120 3)]) (K.ops [M 121 2,J 122 12 4,⟨none,.mop none (.del 4) [(kt 121),(kt 122)]⟩]))))))) (K.ops [kBi 123 99 1 .add,M 99 123]))))))) (G [J 124 8 3,S 6 124 3] kr))))))
def qO6:Nat→Option (List (Nat×Nat)):=fun r=>match r with | 10=>some [(0,0),(1,0),(2,0),(3,0),(4,0),(5,0),(6,0),(7,0),(8,0),(9,0),(10,4),(11,0)] | 14=>some [(0,0),(1,0),(2,0),(3,0),(4,0),(5,0),(6,0),(7,0),(8,0),(9,0),(10,0),(11,0),(12,0),(13,0),(14,0),(15,0),(16,0),(17,0),(18,4),(19,0)] | 22=>some [(0,0),(1,0),(2,0),(3,0),(4,0),(5,0),(6,0),(7,0),(8,0),(9,0),(10,4),(11,0)] | _=>none
theorem zRM:qC Tryz.prog Tryz.f144.ntmps qO6 (Tryz.f144.body.getD .skip)=some zPj.erase:=by kernel_rfl
@[simp] theorem qNG:zA Tryz.prog 144=true:=by kernel_rfl
abbrev zGY (p:Prg)(ev:Evl)(e:Exp)(V:List EVar)(s:XS):Prop:=Ret Tryz.prog 144 [.ptr 0 0,.agg (zF e),.map 6] (tE p s V) (.agg (zI (jA ev e V s).1)) (tE p (jA ev e V s).2 V)
theorem zCM (h:Ih p c m ev){a:Exp}{ks:List Exp}(hks:e.kids=a::ks)(hA:Adm p a V s)(hB:Bn c m s)(hf:(ev a V s).2.fail≠0):zGY p ev e V s:=by
 have hr:=h.ok a V s hA hB;have hx:jA ev e V s=(vz,(ev a V s).2):=by unfold jA; rw[hks]; simp[hf]
 unfold zGY;rw[hx];generalize ev a V s=r at hr hf;refine zH Tryz.func144 rfl zRM (rs:=[.cell 6 3 true]) (by kernel_rfl) ?_;unfold zPj;have hP:=eP p;have hd:=zJ a ks;simp[tE,tS,hP,zF,hks,zJ];refine zN hr [0,1,2,3,4,5,6] (by decide) (by simp[tE,tS,hP]) (by simp[zF]) ?_;simp[tE,tS,hP,zI,hf];exact zG [0,1,2,3,4,5,6] 0 (by decide) (by simp) (by simp) (by simp[zI,qG,zY,zM])
set_option maxHeartbeats 1000000 in
theorem zPo (h:Ih p c m ev){a b d:Exp}{t:Typ}(hk:e.k=5)(hks:e.kids=[a,b,d])(ha:WE p B a jT)(hb:WE p B b t)(hd:WE p B d t)(hV:EnvT p B V)(hN:NdV V)(hB:Bn c m s):zGY p ev e V s:=by
 by_cases hf:(ev a V s).2.fail=0
 ·have hr:=h.ok a V s (.of ha hV hN) hB;have hB1:=(h.bd a V s hB).bn;have hty:=(h.snd a B V s _ ha hV hf).1.bool_inv;have hx:jA ev e V s=ev (if (ev a V s).1.n=1 then b else d) V (ev a V s).2:=by unfold jA;rw[hks];simp only[List.headD_cons,hf,hk];by_cases hn:(ev a V s).1.n=1<;>simp[hn]
  unfold zGY;rw[hx];clear hx;generalize ev a V s=r at *
  obtain⟨v,s1⟩:=r;simp only at *
  have r1:=h.ok b V s1 (.of hb hV hN) hB1;have r2:=h.ok d V s1 (.of hd hV hN) hB1;obtain⟨x,rfl,hxx⟩:=hty;refine zH Tryz.func144 rfl zRM (rs:=[.cell 6 3 true]) (by kernel_rfl) ?_;unfold zPj;have hP:=eP p;simp[tE,tS,hP,zF,hks,zJ,hk];refine zN hr [0,1,2,3,4,5,6] (by decide) (by simp[tE,tS,hP]) (by simp[zF]) ?_;rcases hxx with rfl | rfl
  ·simp[tE,tS,hP,zI,hf,qG,zY,zM];refine zN r2 [0,1,2,3,4,5,6] (by decide) (by simp[tE,tS,hP,hf]) (by simp[zF]) ?_;simp[tE,tS,hP,zI];exact zG [0,1,2,3,4,5,6] 0 (by decide) (by simp) (by simp) (by simp[zI])
  ·simp[tE,tS,hP,zI,hf,qG,zY,zM];refine zN r1 [0,1,2,3,4,5,6] (by decide) (by simp[tE,tS,hP,hf]) (by simp[zF]) ?_;simp[tE,tS,hP,zI];exact zG [0,1,2,3,4,5,6] 0 (by decide) (by simp) (by simp) (by simp[zI])
 ·exact zCM h hks (.of ha hV hN) hB hf
set_option maxHeartbeats 1000000 in
theorem zPp (h:Ih p c m ev){a b:Exp}{u t:Typ}(hk:e.k=6)(hks:e.kids=[a,b])(hfr:∀x∈B,x.id≠e.id)(ha:WE p B a u)(hb:WE p (B++[⟨e.id,0,u⟩]) b t)(hV:EnvT p B V)(hN:NdV V)(hB:Bn c m s):zGY p ev e V s:=by
 by_cases hf:(ev a V s).2.fail=0
 ·have hr:=h.ok a V s (.of ha hV hN) hB;have hB1:=(h.bd a V s hB).bn;have hty:=h.snd a B V s _ ha hV hf;have hfv:=hV.ids hfr;have hx:jA ev e V s=ev b (V++[⟨e.id,0,(ev a V s).1⟩]) (ev a V s).2:=by unfold jA;rw[hks];simp[hf,hk]
  unfold zGY;rw[hx];clear hx;generalize ev a V s=r at *
  obtain⟨v,s1⟩:=r;simp only at *
  have r1:=zKY b V e.id 0 v s1 _ (.of hfv 0) (h.ok b (V++[⟨e.id,0,v⟩]) s1 (.of hb (hV.push hty) (hN.push (.of hfv 0))) hB1);generalize ev b (V++[⟨e.id,0,v⟩]) s1=r' at *
  refine zH Tryz.func144 rfl zRM (rs:=[.cell 6 3 true]) (by kernel_rfl) ?_;unfold zPj;have hP:=eP p;simp[tE,tS,hP,zF,hks,zJ,hk];refine zN hr [0,1,2,3,4,5,6] (by decide) (by simp[tE,tS,hP]) (by simp[zF]) ?_;simp[tE,tS,hP,zI,hf];refine zAr r1 [0,1,2,3,4,5,6] (by decide) (by simp[tE,tS,hP,hf]) (by simp[zF,zI]) ?_;simp[tE,tS,hP,zI];exact zG [0,1,2,3,4,5,6] 0 (by decide) (by simp) (by simp) (by simp[zI])
 ·exact zCM h hks (.of ha hV hN) hB hf
set_option maxHeartbeats 1000000 in
theorem zM2 (h:Ih p c m ev){a:Exp}{d:Dfn}{j:Nat}(hk:e.k=8)(hn:e.n=j)(hks:e.kids=[a])(hd:yC p.defs e.ref=some d)(hdk:d.kind=0)(hj:j<d.slots.length)(ha:WE p B a (zBm e.ref))(hV:EnvT p B V)(hN:NdV V)(hB:Bn c m s):zGY p ev e V s:=by
 by_cases hf:(ev a V s).2.fail=0
 ·have hr:=h.ok a V s (.of ha hV hN) hB;have hty:=(h.snd a B V s _ ha hV hf).1.def_inv hd;have hx:jA ev e V s=((ev a V s).1.kids.getD j vz,(ev a V s).2):=by unfold jA;rw[hks];simp[hf,hk,hn]
  unfold zGY;rw[hx];clear hx;generalize ev a V s=r at *
  obtain⟨v,s1⟩:=r;simp only at *
  obtain⟨_,vs,hl,rfl,_⟩:=hty.resolve_right (fun h=>by omega);have hjv:j<vs.length:=by omega
  refine zH Tryz.func144 rfl zRM (rs:=[.cell 6 3 true]) (by kernel_rfl) ?_;unfold zPj;have hP:=eP p;simp[tE,tS,hP,zF,hks,zJ,hk,hn];refine zN hr [0,1,2,3,4,5,6] (by decide) (by simp[tE,tS,hP]) (by simp[zF]) ?_;simp[tE,tS,hP,zI,hf,qG,zY,zM,hjv,jD hjv];exact zG [0,1,2,3,4,5,6] 0 (by decide) (by simp) (by simp) (by simp[zI,zM,hjv])
 ·exact zCM h hks (.of ha hV hN) hB hf
set_option maxHeartbeats 1000000 in
theorem zM3 (h:Ih p c m ev){a:Exp}{ks:List Exp}{d:Dfn}{t:Typ}(hk:e.k=10)(hks:e.kids=a::ks)(hfr:∀x∈B,x.id≠e.id)(hd:yC p.defs e.ref=some d)(hdk:d.kind=1)(hl:ks.length=d.slots.length)(hl6:ks.length≤32768)(ha:WE p B a (zBm e.ref))
 (hw:∀(j:Nat)(hj:j<ks.length),WE p (B++[⟨e.id,j,(d.slots[j]'(hl▸hj)).typ⟩]) ks[j] t)(hV:EnvT p B V)(hN:NdV V)(hB:Bn c m s):zGY p ev e V s:=by
 by_cases hf:(ev a V s).2.fail=0
 ·have hr:=h.ok a V s (.of ha hV hN) hB;have hB1:=(h.bd a V s hB).bn;obtain⟨hty,hz⟩:=h.snd a B V s _ ha hV hf;have hty:=hty.def_inv hd;have hfv:=hV.ids hfr;have hx:jA ev e V s=ev (e.kids.getD (1+(ev a V s).1.n).toNat .zero) (V++[⟨e.id,(ev a V s).1.n,(ev a V s).1.kids.headD vz⟩]) (ev a V s).2:=by unfold jA;rw[hks];simp[hf,hk]
  unfold zGY;rw[hx];clear hx;generalize ev a V s=r at *
  obtain⟨v,s1⟩:=r;simp only at *
  obtain⟨_,q,x,hm,rfl,hxt⟩:=hty.resolve_left (fun h=>by omega);have hmk:q<ks.length:=by omega
  have e2:(1+(q:Int)).toNat=q+1:=by omega
  have hw1:IntKind.i64.wrap (1+(q:Int))=((q+1:Nat):Int):=by rw[IntWalk.i64_in _ (by omega)]; omega
  simp only[zY,zM,List.headD_cons,e2,hks,List.getD_eq_getElem?_getD,List.getElem?_cons_succ,List.getElem?_eq_getElem hmk,Option.getD_some];have r1:=zKY ks[q] V e.id q x s1 _ (.of hfv q) (h.ok ks[q] (V++[⟨e.id,q,x⟩]) s1 (.of (hw q hmk) (hV.push ⟨hxt,zCs hz (by simp[zM])⟩) (hN.push (.of hfv q))) hB1);generalize ev ks[q] (V++[⟨e.id,q,x⟩]) s1=r' at *
  have hdr:(qL (a::ks)).drop ((q+1)*15)=zF ks[q]++qL (ks.drop (q+1)):=by
   have:=yJ (l:=a::ks) (i:=q+1) (by simpa using hmk)
   simpa using this
  have hlt:q+1<(a::ks).length:=by simpa using hmk
  refine zH Tryz.func144 rfl zRM (rs:=[.cell 6 3 true]) (by kernel_rfl) ?_;unfold zPj;have hP:=eP p;have h0:=zJ a ks;generalize hQ:a::ks=Q at *
  obtain⟨M,hM⟩:∃M,M=q+1:=⟨_,rfl⟩;rw[←hM]at hw1 hdr hlt;have hQ0:0<Q.length:=by omega
  have hq0:0<Q.length*15:=by omega
  have hq15:15≤Q.length*15:=by omega
  have ht:(qL Q).take 15=zF a:=by rw[h0]; exact List.take_left' rfl
  have ea:zF a=[int a.id.a,int a.id.b,int a.id.c,int a.k,int a.n,int a.ref.a,int a.ref.b,int a.ref.c,int a.typ.k,int a.typ.id.a,int a.typ.id.b,int a.typ.id.c,.sl a.typ.kids.length (jB a.typ.kids),.sl a.kids.length (qL a.kids),.sl a.names.length (jY a.names)]:=rfl;rw[ea]at ht;clear h0;simp[tE,tS,hP,zF,hks,hQ0,hq0,hq15,ht,hk];refine zN hr [0,1,2,3,4,5,6] (by decide) (by simp[tE,tS,hP]) (by simp[zF]) ?_;simp[tE,tS,hP,zI,hf,qG,zY,zM,hw1,hlt,hdr,zF];refine zAr r1 [0,1,2,3,4,5,6] (by decide) (by simp[tE,tS,hP,hf]) (by simp[zF,zI]) ?_;simp[tE,tS,hP,zI];exact zG [0,1,2,3,4,5,6] 0 (by decide) (by simp) (by simp) (by simp[zI])
 ·exact zCM h hks (.of ha hV hN) hB hf
set_option maxHeartbeats 2000000 in
theorem zN1 (h:Ih p c m ev){l z b:Exp}{u t:Typ}(hk:e.k=12)(hks:e.kids=[l,z,b])(hfr:∀x∈B,x.id≠e.id)(hl:WE p B l (jM u))(hz:WE p B z t)(hb:WE p (B++[⟨e.id,0,u⟩]++[⟨e.id,1,t⟩]) b t)(hV:EnvT p B V)(hN:NdV V)(hB:Bn c m s):zGY p ev e V s:=by
 by_cases hf:(ev l V s).2.fail=0
 ·have hr:=h.ok l V s (.of hl hV hN) hB;have hB1:=(h.bd l V s hB).bn;obtain⟨hty,hsz⟩:=h.snd l B V s _ hl hV hf;have hfv:=hV.ids hfr;have hx:jA ev e V s=jR ev V e.id b (ev l V s).1.kids (ev z V (ev l V s).2):=by unfold jA;rw[hks];simp[hf,hk]
  unfold zGY;rw[hx];clear hx;generalize ev l V s=r at *
  obtain⟨v,s1⟩:=r;simp only at *
  obtain⟨vs,rfl,hvs⟩:=hty.list_inv;have hr2:=h.ok z V s1 (.of hz hV hN) hB1;have hB2:=h.bd z V s1 hB1;have ht2:=h.snd z B V s1 _ hz hV;generalize ev z V s1=r2 at *
  simp only[zM];have hst:∀i,Bd c m (jR ev V e.id b (vs.take i) r2).2∧((jR ev V e.id b (vs.take i) r2).2.fail=0→TyV p t (jR ev V e.id b (vs.take i) r2).1∧qH (jR ev V e.id b (vs.take i) r2).1≤256):=fun i =>
   ⟨zKi h.bd V e.id b _ _ hB2,zHz h.stop h.snd hV hb _ _ (fun x hx=>⟨hvs x (List.mem_of_mem_take hx),zCs hsz (List.mem_of_mem_take hx)⟩) ht2⟩
  have hround:∀(i:Nat) (hi:i<vs.length),TOk p (jR ev V e.id b (vs.take (i+1)) r2) b (V++[⟨e.id,0,vs[i]⟩]++[⟨e.id,1,(jR ev V e.id b (vs.take i) r2).1⟩]) (jR ev V e.id b (vs.take i) r2).2:=fun i hi=>by rw[List.take_succ_eq_append_getElem hi,zE9];refine h.ok _ _ _ (fun h0=>⟨_,t,hb,(hV.push ⟨hvs _ (List.getElem_mem hi),zCs hsz (List.getElem_mem hi)⟩).push ((hst i).2 h0),(hN.push (.of hfv 0)).push (.push hfv (by decide) _)⟩) (hst i).1.bn
  have htk:vs.take vs.length=vs:=List.take_length;have hF0:jR ev V e.id b [] r2=r2:=rfl;refine zH Tryz.func144 rfl zRM (rs:=[.cell 6 3 true]) (by kernel_rfl) ?_;unfold zPj;have hP:=eP p;simp[tE,tS,hP,zF,hks,zJ,hk];refine zN hr [0,1,2,3,4,5,6] (by decide) (by simp[tE,tS,hP]) (by simp[zF]) ?_;simp[tE,tS,hP,zI,hf,qG,zY,zM];refine zN hr2 [0,1,2,3,4,5,6] (by decide) (by simp[tE,tS,hP,hf]) (by simp[zF]) ?_;simp[tE,tS,hP,zI,zM];intro hvl;refine qZ (S:=Nat) (fun i=>[(0,.ptr 0 0),(2,.map 6),(4,.ptr 7 0),(6,.ptr 8 0),(8,.ptr 9 0),(97,.sl vs.length (zV vs)),(98,int vs.length),(99,int i)])
   (fun i=>tE p (jR ev V e.id b (vs.take i) r2).2 V++[.box (zF e),.box [int 0,int 0,.nil],.box (zI (jR ev V e.id b (vs.take i) r2).1)]) (fun i=>i≤vs.length) (fun i=>vs.length-i) 0 (by simp)
   (zS [0,1,2,3,4,5,6,7,8,10] 0 (by decide) (by simp) (by simp[tE,tS,hP,zF,hks,zJ,hk,zI,hF0]) (by simp)) ?_
  intro i hi;by_cases hil:i<vs.length
  ·have hro:=hround i hil;have hdr:=jD hil;generalize hFn:jR ev V e.id b (vs.take (i+1)) r2=Fn at hro;generalize hFi:jR ev V e.id b (vs.take i) r2=Fi at hro;obtain⟨acc,si⟩:=Fi;simp only at hro;generalize vs[i]=x at *
   have p1:=zJ9 (i:=e.id) (n:=0) (V:=V) (v:=x) (.of hfv 0);have d1:=zMB (i:=e.id) (n:=0) (V:=V) (v:=x) (.of hfv 0);have wo:=zKY b (V++[⟨e.id,0,x⟩]) e.id 1 acc si Fn (.push hfv (by decide) x) hro;simp[tE,tS,hP,zF,hks,zJ,hk,zI,hil,hdr,p1,hFi];refine zAr wo [0,1,2,3,4,5,6] (by decide) (by simp[tE,tS,hP]) (by simp[zF,zI]) ?_;simp[tE,tS,hP,zI,d1];exact zT (i+1) hil (by omega) (zS [0,1,2,3,4,5,6,7,8,9] 0 (by decide) (by simp) (by simp[tE,tS,hP,zF,hks,zJ,hk,zI,hFn]) (by simp[qB hil hvl]))
  ·have hil:i=vs.length:=by omega
   subst hil;rw[htk];simp[tE,tS,hP,zI];exact zG [0,1,2,3,4,5,6] 0 (by decide) (by simp) (by simp) (by simp[zI])
 ·exact zCM h hks (.of hl hV hN) hB hf
end
section
variable {p:Prg}{c:Nat}{m:Int}{ev:Evl}{e:Exp}{V:List EVar}{s:XS}
def qFH:K:=G [kO 4 1,kZ 6 [ki,ki,kl]] (Z (G [M 10 0,kU 11 10,D 12 11 3,L 13 12 1,kQi 14 13 0 true] (Y 14 (G [kb 15 [ki,ki,kl] [],S 6 15 3] kr) ks)) (Z (K.dops [(0,0,M 16 0),(1,0,kU 17 16),(2,0,D 18 17 4),(3,0,L 19 18 1),(4,0,D 20 4 0),(5,0,J 21 20 3),(6,4,⟨none,.call (some 22) (kt 19) [(.const (.bool true)),(kt 21)]⟩)]) (G [⟨none,.mop (some 23) (.mk 4) []⟩,M 7 23] (Z (G [D 24 4 8,L 25 24 1,kN 26 25,kMi 27 0] (K.block 0 (K.loop (G [kB 28 27 26 .lss] (Z (Y 28 ks (K.exit 0)) (Z (K.block 1 (G [M 29 27,kX 30 25 27 11,J 31 30 11,kZ 9 kz5,M 8 29,S 9 31 11] (K.dops [(0,0,M 32 7),(1,0,D 33 9 0),(2,0,J 34 33 3),(3,0,kb 35 zGv [(0,3,(kt 34)),(3,1,(kc 0))]),(4,0,M 36 2),(5,0,M 37 8),(6,0,kX 38 36 37 3),(7,0,J 39 38 3),(8,0,⟨none,.mop none (.set 4) [(kt 32),(kt 35),(kt 39)]⟩)]))) (K.ops [kBi 40 27 1 .add,M 27 40]))))))) (G [M 41 0,D 42 4 14,J 43 42 15,M 44 7,kC 45 93 [(kt 41),(kt 43),(kt 44)],S 6 45 3] kr)))))
def qO5:Nat→Option (List (Nat×Nat)):=fun r=>match r with | 3=>some [(0,0),(1,0),(2,0),(3,0),(4,0),(5,0),(6,4)] | _=>none
theorem qM1:qC Tryz.prog Tryz.f47.ntmps qO5 (Tryz.f47.body.getD .skip)=some qFH.erase:=by kernel_rfl
@[simp] theorem qNF:zA Tryz.prog 47=true:=by kernel_rfl
set_option maxHeartbeats 1000000 in
theorem zQM (h:Ih p c m ev)(hc:c≤100000)(d:Dfn)(vs:List Val)(hl:s.fail=0→vs.length=d.slots.length)(hnd:d.slots.Pairwise fun a b=>a.id≠b.id)(hd6:d.slots.length≤6)
 (hA:s.fail=0→Adm p d.body (zBF d.slots vs) {s with ds:=s.ds++[d.id]})(hB:Bd c m s) :
 Ret Tryz.prog 47 [.ptr 0 0,.agg (zP d),.sl vs.length (zV vs)] (tS p s) (.agg (zI (zA6 ev d vs s).1)) (tS p (zA6 ev d vs s).2):=by
 have hP:=eP p;refine zH Tryz.func47 rfl qM1 (rs:=[.cell 6 3 true]) (by kernel_rfl) ?_;unfold qFH;by_cases hf:s.fail=0
 ·have hx:zA6 ev d vs s=ev d.body (zBF d.slots vs) {s with ds:=s.ds++[d.id]}:=by unfold zA6; rw[if_neg (by simp[hf])]
  rw[hx];have hl:=hl hf;have hb1:=hB.ds;have hb2:=hB.ns;have hb3:=zMA s.ns;have hn:=zMU true d.id s.ds (ddL s.ns) (by omega) (by omega);have he:=h.ok _ _ _ (hA hf) (hB.def d.id hf);generalize ev d.body (zBF d.slots vs) {s with ds:=s.ds++[d.id]}=r at *
  have hel:=zFy d.slots vs hl;have hfr:∀(i:Nat) (hi:i<d.slots.length),Fr ((zBF d.slots vs).take i) d.slots[i].id 0:=fun i hi b hb e=>by
   obtain⟨j,hj,rfl⟩:=List.getElem_of_mem hb;rw[List.length_take]at hj;have hj1:j<d.slots.length:=by omega
   have hij:j<i:=by omega
   have:=List.pairwise_iff_getElem.1 hnd j i hj1 hi hij;have e1:((zBF d.slots vs).take i)[j].id=d.slots[j].id:=by simp[zBF]
   exact this (e1.symm.trans e.1)
  have h0:zDA []=[]:=rfl;have hall:(zBF d.slots vs).take d.slots.length=zBF d.slots vs:=by rw[←hel]; exact List.take_length
  simp[tS,hP,zP,hf];refine zAr hn [1,2,3,4,5] (by decide) (by simp[nS]) (by simp[qX]) ?_;simp[nS];intro hls;refine qZ (S:=Nat) (fun i=>[(0,.ptr 0 0),(2,.sl vs.length (zV vs)),(4,.ptr 6 0),(6,.ptr 7 0),(7,.map 8),(25,.sl d.slots.length (jU d.slots)),(26,int d.slots.length),(27,int i)])
   (fun i=>tS p {s with ds:=s.ds++[d.id]}++[.box (zP d),.box [int 0,int 0,.nil],.mp false 4 (zDA ((zBF d.slots vs).take i))]) (fun i=>i≤d.slots.length) (fun i=>d.slots.length-i) 0 (by simp)
   ((zY1 (l:=8) rfl).trans (zS [0,1,2,3,4,5,6,7,8] 0 (by decide) (by simp) (by simp[tS,hP,zP,hf,h0,jJ,qF]) (by simp))) ?_
  intro i hi;by_cases hil:i<d.slots.length
  ·have hiv:i<vs.length:=by omega
   have hdr:=jL hil;have hdv:=jD hiv;have hp:=zJ9 (v:=vs[i]) (hfr i hil);have htk:=zIj hl hil;simp[tS,hP,zP,hil,hiv,hdr,hdv,zAd,zOq,zH2,zG3,hp];exact zT (i+1) hil (by omega) (zS [0,1,2,3,4,5,6,7,8] 0 (by decide) (by simp) (by simp[tS,hP,zP,htk]) (by simp[qB hil hls]))
  ·have hil:i=d.slots.length:=by omega
   subst hil;rw[hall];simp[tS,hP,zP];refine zN he [0,1,2,3,4,5,8] (by decide) (by simp[tE,tS,hP]) (by simp[zF]) ?_;simp[tE,tS,hP,zI];exact zG [0,1,2,3,4,5] 0 (by decide) (by simp) (by simp) (by simp[zI])
 ·have hx:zA6 ev d vs s=(vz,s):=by unfold zA6; rw[if_pos hf]
  rw[hx];simp[tS,hP,zP,hf];exact zG [0,1,2,3,4,5] 0 (by decide) (by simp) (by simp) (by simp[zI,qG,zY,zM])
def zIL:K:=(Z (G [M 58 0,kU 59 58,D 60 59 3,L 61 60 1,kQi 62 61 0 true] (Y 62 (G [kb 63 [ki,ki,kl] [],S 6 63 3] kr) ks)) (Z (G [D 64 4 3,L 65 64 1] (K.block 3 (G [kQi 67 65 3 false,M 66 67] (Y 66 (Z (K.dops [(0,0,M 69 0),(1,0,kU 70 69),(2,1,D 71 70 0),(3,1,J 72 71 2),(4,1,D 73 4 5),(5,1,J 74 73 3),(6,1,kC 75 42 [(kt 72),(kt 74)]),(7,0,M 68 75),(8,0,kE 76 68 0),(9,0,kE 77 68 1),(10,0,kZ 10 kz0),(11,0,S 10 76 31),(12,0,M 11 77)]) (G [M 78 0,J 79 10 31,M 80 7,kC 81 47 [(kt 78),(kt 79),(kt 80)],S 6 81 3] kr)) (G [kQi 83 65 4 false,M 82 83] (Y 82 (G [D 84 4 4,L 85 84 1,M 86 7,kC 87 145 [(kt 85),(kt 86)],S 6 87 3] kr) (G [kQi 89 65 7 false,M 88 89] (Y 88 (G [M 90 7,kb 91 [ki,ki,kl] [(0,1,(kc 2)),(2,1,(kt 90))],S 6 91 3] kr) (G [kQi 93 65 9 false,M 92 93] (Y 92 (G [D 94 4 4,L 95 94 1,M 96 7,kb 97 [ki,ki,kl] [(0,1,(kc 3)),(1,1,(kt 95)),(2,1,(kt 96))],S 6 97 3] kr) ks)))))))))) (G [M 98 7,kb 99 [ki,ki,kl] [(0,1,(kc 4)),(2,1,(kt 98))],S 6 99 3] kr)))
def zRE:K:=G [kO 4 1,kZ 6 [ki,ki,kl]] (Z (G [D 12 4 3,L 13 12 1] (K.block 0 (G [kQi 15 13 0 false,M 14 15] (Y 14 (G [D 16 4 4,L 17 16 1,kb 18 [ki,ki,kl] [(0,1,(kc 0)),(1,1,(kt 17))],S 6 18 3] kr) (G [kQi 20 13 1 false,M 19 20] (Y 19 (G [D 21 4 4,L 22 21 1,kb 23 [ki,ki,kl] [(0,1,(kc 1)),(1,1,(kt 22))],S 6 23 3] kr) (G [kQi 25 13 2 false,M 24 25] (Y 24 (G [M 26 2,D 27 4 5,J 28 27 3,D 29 4 4,L 30 29 1,kb 31 zGv [(0,3,(kt 28)),(3,1,(kt 30))],⟨none,.mop (some 32) (.get 4 (.agg #[ki,ki,kl]) false) [(kt 26),(kt 31)]⟩,S 6 32 3] kr) (Z (G [kQi 34 13 5 false,M 33 34] (Y 33 ks (G [kQi 35 13 6 false,M 33 35] (Y 33 ks (G [kQi 36 13 8 false,M 33 36] (Y 33 ks (G [kQi 37 13 10 false,M 33 37] (Y 33 ks (K.ops [kQi 38 13 12 false,M 33 38]))))))))) (Y 33 (G [M 39 0,J 40 4 15,M 41 2,kC 42 144 [(kt 39),(kt 40),(kt 41)],S 6 42 3] kr) ks)))))))))) (G [kMn 7] (Z (G [D 43 4 13,L 44 43 1,kN 45 44,kMi 46 0] (K.block 1 (K.loop (G [kB 47 46 45 .lss] (Z (Y 47 ks (K.exit 1)) (Z (K.block 2 (G [kX 48 44 46 15,J 49 48 15,kZ 9 kz1,S 9 49 15] (K.ops [M 50 7,M 51 0,J 52 9 15,M 53 2,kC 54 93 [(kt 51),(kt 52),(kt 53)],kd 55 47 3 1 [ki,ki,kl] [(0,3,(kt 54))],kP 56 47 3 40 50 55,M 7 56]))) (K.ops [kBi 57 46 1 .add,M 46 57]))))))) (K.wk zIL))))
theorem zTQ:zL Tryz.prog Tryz.f129.ntmps (Tryz.f129.body.getD .skip)=some zRE.erase:=by kernel_rfl
@[simp] theorem qNL:zA Tryz.prog 129=true:=by kernel_rfl
abbrev zPl (p:Prg)(e:Exp)(V:List EVar)(s:XS)(r:Val×XS):Prop:=Ret Tryz.prog 129 [.ptr 0 0,.agg (zF e),.map 6] (tE p s V) (.agg (zI r.1)) (tE p r.2 V)
abbrev zCz (p:Prg)(e:Exp)(V:List EVar)(s:XS)(vs:List Val)(r:Val×XS):Prop :=
 wpK Tryz.prog 7 zIL (fin [RS.cell 6 3 true] (zHa 7 (.agg (zI r.1)) (tE p r.2 V))) (qT [(0,.ptr 0 0),(2,.map 6),(4,.ptr 7 0),(6,.ptr 8 0),(7,.sl vs.length (zV vs))]) (tE p s V++[.box (zF e),.box [int 0,int 0,.nil]])
set_option maxHeartbeats 1000000 in
theorem zD7 (h:Ih p c m ev){r:Val×XS}(hk:e.k=3∨e.k=4∨e.k=7∨e.k=9∨e.k=11)(hk6:e.kids.length≤32768)(hA:∀k∈e.kids,∀s,Adm p k V s)(hB:Bd c m s)
 (hr:zCz p e V (qK ev V e.kids s).2 (qK ev V e.kids s).1 r):zPl p e V s r:=by
 have hP:=eP p;refine zH Tryz.func129 rfl zTQ (rs:=[.cell 6 3 true]) (by kernel_rfl) ?_;unfold zRE;have n0:¬e.k=0:=by omega
 have n1:¬e.k=1:=by omega
 have n2:¬e.k=2:=by omega
 have n5:¬e.k=5:=by omega
 have n6:¬e.k=6:=by omega
 have n8:¬e.k=8:=by omega
 have n10:¬e.k=10:=by omega
 have n12:¬e.k=12:=by omega
 have hst:∀i,Bd c m (qK ev V (e.kids.take i) s).2:=fun i=>zJ0 h.bd V _ _ hB
 have hln:∀i,i≤e.kids.length→(qK ev V (e.kids.take i) s).1.length=i:=fun i hi=>by rw[zBN,List.length_take]; omega
 have h00:qK ev V [] s=([],s):=rfl;simp[tE,tS,hP,zF,n0,n1,n2,n5,n6,n8,n10,n12];intro hl;refine qZ (S:=Nat) (fun i=>[(0,.ptr 0 0),(2,.map 6),(4,.ptr 7 0),(6,.ptr 8 0),(7,.row 9 i),(44,.sl e.kids.length (qL e.kids)),(45,int e.kids.length),(46,int i)])
  (fun i=>tE p (qK ev V (e.kids.take i) s).2 V++[.box (zF e),.box [int 0,int 0,.nil],.row false 47 3 i (zV (qK ev V (e.kids.take i) s).1)]) (fun i=>i≤e.kids.length) (fun i=>e.kids.length-i) 0 (by simp)
  ((yA (t:=7) (by simp) 47 3).trans (zS [0,1,2,3,4,5,6,7,8,9] 0 (by decide) (by simp) (by simp[tE,tS,hP,zF,h00]) (by simp))) ?_
 intro i hi;by_cases hil:i<e.kids.length
 ·have hr:=h.ok e.kids[i] V (qK ev V (e.kids.take i) s).2 (hA _ (List.getElem_mem hil) _) (hst i).bn;have hsn:=zFQ ev V e.kids[i] (e.kids.take i) s;rw[←List.take_succ_eq_append_getElem hil]at hsn;have hdr:=yJ hil;have hln:=hln i hi;generalize hFn:qK ev V (e.kids.take (i+1)) s=Fn at hsn;subst hsn;generalize hFi:qK ev V (e.kids.take i) s=Fi at *
  obtain⟨vs,si⟩:=Fi;simp only at *
  generalize ev e.kids[i] V si=rk at *
  obtain⟨v,sk⟩:=rk;simp only at *
  simp[tE,tS,hP,hil,hdr,hFi,zF];refine zN hr [0,1,2,3,4,5,6] (by decide) (by simp[tE,tS,hP]) (by simp[zF]) ?_;simp[tE,tS,hP,zI];refine⟨⟨by simp[maxLen]; omega,by omega⟩,?_⟩;exact zT (i+1) hil (by omega) (zS [0,1,2,3,4,5,6,7,8,9] 0 (by decide) (by simp) (by simp[tE,tS,hP,zF,hFn,zAK]) (by simp[qB hil hl]))
 ·have hil:i=e.kids.length:=by omega
  subst hil;have htk:e.kids.take e.kids.length=e.kids:=List.take_length;have hln:=hln _ (Nat.le_refl _);rw[htk]at hln ⊢;generalize qK ev V e.kids s=F at *
  obtain⟨vs,si⟩:=F;simp only at *
  simp;exact⟨_,_,zS [0,1,2,3,4,5,6,7,8] 1 (by decide) (by simp) (by simp[tE,tS,hP,zF]) (by simp[tE,tS,hln]),hr⟩
theorem zEo {vs:List Val}(hf:s.fail≠0):zCz p e V s vs (vz,s):=by have hP:=eP p;unfold zCz zIL;simp[tE,tS,hP,zF,hf];exact zG [0,1,2,3,4,5,6] 0 (by decide) (by simp) (by simp) (by simp[zI,qG,zY,zM])
theorem zVK {vs:List Val}(hf:s.fail=0)(hk:e.k=7):zCz p e V s vs (.mk 2 0 vs,s):=by have hP:=eP p;unfold zCz zIL;simp[tE,tS,hP,zF,hf,hk];exact zG [0,1,2,3,4,5,6] 0 (by decide) (by simp) (by simp[hf]) (by simp[zI,qG,zY,zM])
theorem zSM {vs:List Val}(hf:s.fail=0)(hk:e.k=9):zCz p e V s vs (.mk 3 e.n vs,s):=by have hP:=eP p;unfold zCz zIL;simp[tE,tS,hP,zF,hf,hk];exact zG [0,1,2,3,4,5,6] 0 (by decide) (by simp) (by simp[hf]) (by simp[zI,qG,zY,zM])
theorem zSN {vs:List Val}(hf:s.fail=0)(hk:e.k=11):zCz p e V s vs (.mk 4 0 vs,s):=by have hP:=eP p;unfold zCz zIL;simp[tE,tS,hP,zF,hf,hk];exact zG [0,1,2,3,4,5,6] 0 (by decide) (by simp) (by simp[hf]) (by simp[zI,qG,zY,zM])
theorem zYp {ts:List Typ}{t:Typ}{vs:List Val}(hf:s.fail=0)(hk:e.k=4)(ho:OpT e.n ts t)(hv:TyL p ts vs)(hs:∀v∈vs,qH v≤256):zCz p e V s vs (opV e.n vs,s):=by have hP:=eP p;unfold zCz zIL;simp[tE,tS,hP,zF,hf,hk];refine zR (zUK ho hv hs) (by simp) (by simp[zI]) ?_;simp[zI];exact zG [0,1,2,3,4,5,6] 0 (by decide) (by simp) (by simp[hf]) (by simp[zI])
theorem zSL {d:Dfn}{vs:List Val}{r:Val×XS}(hf:s.fail=0)(hk:e.k=3)(hd:yC p.defs e.ref=some d)
 (hb:Ret Tryz.prog 47 [.ptr 0 0,.agg (zP d),.sl vs.length (zV vs)] (tS p s) (.agg (zI r.1)) (tS p r.2)):zCz p e V s vs r:=by
 have hP:=eP p;unfold zCz zIL;simp[tE,tS,hP,zF,hf,hk];refine zA3 (zE3 p e.ref) (by simp[zU,qX]) (by simp[zAL]) ?_;simp[zAL,hd,zP];refine zN hb [0,1,2,3,4,5] (by decide) (by simp[tS,hP,hf]) (by simp[zP]) ?_;simp[tS,hP,zI];exact zG [0,1,2,3,4,5,6] 0 (by decide) (by simp) (by simp) (by simp[zI])
end
end Go.Proofs.YthglhccibdlccaaGreatDoor
