/-
  trace: branches.
  trace: bodies, values, nodes.
-/
import Derived.Test.YthglhccibdlccaaGreatDoorX45
import Derived.Test.YthglhccibdlccaaGreatDoorX24
set_option linter.unusedVariables false
set_option linter.unusedSimpArgs false
namespace Go.Proofs.YthglhccibdlccaaGreatDoor
open Go.Abs
def Adm (p:Prg)(e:Exp)(V:List EVar)(s:XS):Prop:=s.fail=0→∃B t,WE p B e t∧EnvT p B V∧NdV V
structure Ih (p:Prg)(c:Nat)(m:Int)(ev:Evl):Prop where
 stop:zK5 ev
 snd:Snd p ev
 bd:∀e V s,Bn c m s→Bd c m (ev e V s).2
 ok:∀e V s,Adm p e V s→Bn c m s→TOk p (ev e V s) e V s
section
variable {p:Prg}{c:Nat}{m:Int}{ev:Evl}{B:List Bnd}{e:Exp}{V:List EVar}{s:XS}
theorem Adm.of {t:Typ}(h:WE p B e t)(hV:EnvT p B V)(hN:NdV V):Adm p e V s:=fun _=>⟨B,t,h,hV,hN⟩
theorem Adm.bad (h:s.fail≠0):Adm p e V s:=fun e=>(h e).elim
def zOH:K:=G [kO 4 1,kZ 6 [ki,ki,kl]] (G [M 13 0,D 14 4 13,L 15 14 1,kXi 16 15 15 0,J 17 16 15,M 18 2,kC 19 93 [(kt 13),(kt 17),(kt 18)],kZ 7 [ki,ki,kl],S 7 19 3] (Z (G [M 20 0,kU 21 20,D 22 21 3,L 23 22 1,kQi 24 23 0 true] (Y 24 (G [kb 25 [ki,ki,kl] [],S 6 25 3] kr) ks)) (Z (G [D 26 4 3,L 27 26 1] (K.block 0 (G [kQi 29 27 5 false,M 28 29] (Y 28 (Z (G [D 30 7 1,L 31 30 1,kQi 32 31 1 false] (Y 32 (G [M 33 0,D 34 4 13,L 35 34 1,kXi 36 35 15 1,J 37 36 15,M 38 2,kC 39 93 [(kt 33),(kt 37),(kt 38)],S 6 39 3] kr) ks)) (G [M 40 0,D 41 4 13,L 42 41 1,kXi 43 42 15 2,J 44 43 15,M 45 2,kC 46 93 [(kt 40),(kt 44),(kt 45)],S 6 46 3] kr)) (G [kQi 48 27 6 false,M 47 48] (Y 47 (Z (K.dops [(0,0,M 49 0),(1,0,D 50 4 13),(2,0,L 51 50 1),(3,0,kXi 52 51 15 1),(4,0,J 53 52 15),(5,0,M 54 2),(6,0,D 55 4 0),(7,0,J 56 55 3),(8,0,kb 57 zGX [(0,3,(kt 56)),(3,1,(kc 0))]),(9,0,J 58 7 3),(10,4,kC 59 166 [(kt 49),(kt 53),(kt 54),(kt 57),(kt 58)]),(11,0,S 6 59 3)]) kr) (G [kQi 61 27 8 false,M 60 61] (Y 60 (G [D 62 7 2,L 63 62 1,D 64 4 4,L 65 64 1,kX 66 63 65 3,J 67 66 3,S 6 67 3] kr) (G [kQi 69 27 10 false,M 68 69] (Y 68 (Z (K.dops [(0,0,M 70 0),(1,0,D 71 4 13),(2,0,L 72 71 1),(3,0,D 73 7 1),(4,0,L 74 73 1),(5,0,⟨none,.bin (some 75) .add (kc 1) (kt 74)⟩),(6,0,kX 76 72 75 15),(7,0,J 77 76 15),(8,0,M 78 2),(9,0,D 79 4 0),(10,0,J 80 79 3),(11,0,D 81 7 1),(12,0,L 82 81 1),(13,0,kb 83 zGX [(0,3,(kt 80)),(3,1,(kt 82))]),(14,0,D 84 7 2),(15,0,L 85 84 1),(16,0,kXi 86 85 3 0),(17,0,
 J 87 86 3),(18,4,kC 88 166 [(kt 70),(kt 77),(kt 78),(kt 83),(kt 87)]),(19,0,S 6 88 3)]) kr) ks)))))))))) (G [M 89 0,D 90 4 13,L 91 90 1,kXi 92 91 15 1,J 93 92 15,M 94 2,kC 95 93 [(kt 89),(kt 93),(kt 94)],kZ 8 [ki,ki,kl],S 8 95 3] (Z (G [D 96 7 2,L 97 96 1,kN 98 97,kMi 99 0] (K.block 1 (K.loop (G [kB 100 99 98 .lss] (Z (Y 100 ks (K.exit 1)) (Z (K.block 2 (G [kX 101 97 99 3,J 102 101 3,kZ 10 [ki,ki,kl],S 10 102 3] (G [J 103 8 3,kZ 11 [ki,ki,kl],S 11 103 3] (G [D 104 4 0,J 105 104 3,kb 106 zGX [(0,3,(kt 105)),(3,1,(kc 0))],kZ 12 zGX,S 12 106 4] (G [M 107 2,J 108 12 4,J 109 10 3,⟨none,.mop none (.set 4) [(kt 107),(kt 108),(kt 109)]⟩] (Z (K.dops [(0,0,M 110 0),(1,0,D 111 4 13),(2,0,L 112 111 1),(3,0,kXi 113 112 15 2),(4,0,J 114 113 15),(5,0,M 115 2),(6,0,D 116 4 0),(7,0,J 117 116 3),(8,0,kb 118 zGX [(0,3,(kt 117)),(3,1,(kc 1))]),(9,0,J 119 11 3),(10,4,kC 120 166 [(kt 110),(kt 114),(kt 115),(kt 118),(kt 119)]),(11,0,S 8 120 3)]) (K.ops [M 121 2,J 122 12 4,⟨none,.mop none (.del 4) [(kt 121),(kt 122)]⟩]))))))) (K.ops [kBi 123 99 1 .add,M 99 123]))))))) (G [J 124 8 3,S 6 124 3] kr))))))
def qN3:Nat→Option (List (Nat×Nat)):=fun r=>match r with | 10=>some [(0,0),(1,0),(2,0),(3,0),(4,0),(5,0),(6,0),(7,0),(8,0),(9,0),(10,4),(11,0)] | 14=>some [(0,0),(1,0),(2,0),(3,0),(4,0),(5,0),(6,0),(7,0),(8,0),(9,0),(10,0),(11,0),(12,0),(13,0),(14,0),(15,0),(16,0),(17,0),(18,4),(19,0)] | 22=>some [(0,0),(1,0),(2,0),(3,0),(4,0),(5,0),(6,0),(7,0),(8,0),(9,0),(10,4),(11,0)] | _=>none
theorem zRu:qC Tryz.prog Tryz.f144.ntmps qN3 (Tryz.f144.body.getD .skip)=some zOH.erase:=by kernel_rfl
@[simp] theorem qMD:zA Tryz.prog 144=true:=by kernel_rfl
abbrev zG2 (p:Prg)(ev:Evl)(e:Exp)(V:List EVar)(s:XS):Prop:=Ret Tryz.prog 144 [.ptr 0 0,.agg (zF e),.map 6] (tE p s V) (.agg (zP (jR ev e V s).1)) (tE p (jR ev e V s).2 V)
theorem zC8 (h:Ih p c m ev){a:Exp}{ks:List Exp}(hks:e.kids=a::ks)(hA:Adm p a V s)(hB:Bn c m s)(hf:(ev a V s).2.fail≠0):zG2 p ev e V s:=by
 have hr:=h.ok a V s hA hB;have hx:jR ev e V s=(vz,(ev a V s).2):=by unfold jR; rw[hks]; simp[hf]
 unfold zG2;rw[hx];generalize ev a V s=r at hr hf;refine zH Tryz.func144 rfl zRu (rs:=[.cell 6 3 true]) (by kernel_rfl) ?_;unfold zOH;have hP:=eP p;have hd:=zJ a ks;simp[tE,tS,hP,zF,hks,zJ];refine zN hr [0,1,2,3,4,5,6] (by decide) (by simp[tE,tS,hP]) (by simp[zF]) ?_;simp[tE,tS,hP,zP,hf];exact zG [0,1,2,3,4,5,6] 0 (by decide) (by simp) (by simp) (by simp[zP,jX,jC,qH])
set_option maxHeartbeats 1000000 in
theorem zOL (h:Ih p c m ev){a b d:Exp}{t:Typ}(hk:e.k=5)(hks:e.kids=[a,b,d])(ha:WE p B a jN)(hb:WE p B b t)(hd:WE p B d t)(hV:EnvT p B V)(hN:NdV V)(hB:Bn c m s):zG2 p ev e V s:=by
 by_cases hf:(ev a V s).2.fail=0
 ·have hr:=h.ok a V s (.of ha hV hN) hB;have hB1:=(h.bd a V s hB).bn;have hty:=(h.snd a B V s _ ha hV hf).1.bool_inv;have hx:jR ev e V s=ev (if (ev a V s).1.n=1 then b else d) V (ev a V s).2:=by unfold jR;rw[hks];simp only[List.headD_cons,hf,hk];by_cases hn:(ev a V s).1.n=1<;>simp[hn]
  unfold zG2;rw[hx];clear hx;generalize ev a V s=r at *
  obtain⟨v,s1⟩:=r;simp only at *
  have r1:=h.ok b V s1 (.of hb hV hN) hB1;have r2:=h.ok d V s1 (.of hd hV hN) hB1;obtain⟨x,rfl,hxx⟩:=hty;refine zH Tryz.func144 rfl zRu (rs:=[.cell 6 3 true]) (by kernel_rfl) ?_;unfold zOH;have hP:=eP p;simp[tE,tS,hP,zF,hks,zJ,hk];refine zN hr [0,1,2,3,4,5,6] (by decide) (by simp[tE,tS,hP]) (by simp[zF]) ?_;rcases hxx with rfl | rfl
  ·simp[tE,tS,hP,zP,hf,jX,jC,qH];refine zN r2 [0,1,2,3,4,5,6] (by decide) (by simp[tE,tS,hP,hf]) (by simp[zF]) ?_;simp[tE,tS,hP,zP];exact zG [0,1,2,3,4,5,6] 0 (by decide) (by simp) (by simp) (by simp[zP])
  ·simp[tE,tS,hP,zP,hf,jX,jC,qH];refine zN r1 [0,1,2,3,4,5,6] (by decide) (by simp[tE,tS,hP,hf]) (by simp[zF]) ?_;simp[tE,tS,hP,zP];exact zG [0,1,2,3,4,5,6] 0 (by decide) (by simp) (by simp) (by simp[zP])
 ·exact zC8 h hks (.of ha hV hN) hB hf
set_option maxHeartbeats 1000000 in
theorem zOM (h:Ih p c m ev){a b:Exp}{u t:Typ}(hk:e.k=6)(hks:e.kids=[a,b])(hfr:∀x∈B,x.id≠e.id)(ha:WE p B a u)(hb:WE p (B++[⟨e.id,0,u⟩]) b t)(hV:EnvT p B V)(hN:NdV V)(hB:Bn c m s):zG2 p ev e V s:=by
 by_cases hf:(ev a V s).2.fail=0
 ·have hr:=h.ok a V s (.of ha hV hN) hB;have hB1:=(h.bd a V s hB).bn;have hty:=h.snd a B V s _ ha hV hf;have hfv:=hV.ids hfr;have hx:jR ev e V s=ev b (V++[⟨e.id,0,(ev a V s).1⟩]) (ev a V s).2:=by unfold jR;rw[hks];simp[hf,hk]
  unfold zG2;rw[hx];clear hx;generalize ev a V s=r at *
  obtain⟨v,s1⟩:=r;simp only at *
  have r1:=zKt b V e.id 0 v s1 _ (.of hfv 0) (h.ok b (V++[⟨e.id,0,v⟩]) s1 (.of hb (hV.push hty) (hN.push (.of hfv 0))) hB1);generalize ev b (V++[⟨e.id,0,v⟩]) s1=r' at *
  refine zH Tryz.func144 rfl zRu (rs:=[.cell 6 3 true]) (by kernel_rfl) ?_;unfold zOH;have hP:=eP p;simp[tE,tS,hP,zF,hks,zJ,hk];refine zN hr [0,1,2,3,4,5,6] (by decide) (by simp[tE,tS,hP]) (by simp[zF]) ?_;simp[tE,tS,hP,zP,hf];refine zAn r1 [0,1,2,3,4,5,6] (by decide) (by simp[tE,tS,hP,hf]) (by simp[zF,zP]) ?_;simp[tE,tS,hP,zP];exact zG [0,1,2,3,4,5,6] 0 (by decide) (by simp) (by simp) (by simp[zP])
 ·exact zC8 h hks (.of ha hV hN) hB hf
set_option maxHeartbeats 1000000 in
theorem zLO (h:Ih p c m ev){a:Exp}{d:Dfn}{j:Nat}(hk:e.k=8)(hn:e.n=j)(hks:e.kids=[a])(hd:zAg p.defs e.ref=some d)(hdk:d.kind=0)(hj:j<d.slots.length)(ha:WE p B a (zAy e.ref))(hV:EnvT p B V)(hN:NdV V)(hB:Bn c m s):zG2 p ev e V s:=by
 by_cases hf:(ev a V s).2.fail=0
 ·have hr:=h.ok a V s (.of ha hV hN) hB;have hty:=(h.snd a B V s _ ha hV hf).1.def_inv hd;have hx:jR ev e V s=((ev a V s).1.kids.getD j vz,(ev a V s).2):=by unfold jR;rw[hks];simp[hf,hk,hn]
  unfold zG2;rw[hx];clear hx;generalize ev a V s=r at *
  obtain⟨v,s1⟩:=r;simp only at *
  obtain⟨_,vs,hl,rfl,_⟩:=hty.resolve_right (fun h=>by omega);have hjv:j<vs.length:=by omega
  refine zH Tryz.func144 rfl zRu (rs:=[.cell 6 3 true]) (by kernel_rfl) ?_;unfold zOH;have hP:=eP p;simp[tE,tS,hP,zF,hks,zJ,hk,hn];refine zN hr [0,1,2,3,4,5,6] (by decide) (by simp[tE,tS,hP]) (by simp[zF]) ?_;simp[tE,tS,hP,zP,hf,jX,jC,qH,hjv,yF hjv];exact zG [0,1,2,3,4,5,6] 0 (by decide) (by simp) (by simp) (by simp[zP,qH,hjv])
 ·exact zC8 h hks (.of ha hV hN) hB hf
set_option maxHeartbeats 1000000 in
theorem zLP (h:Ih p c m ev){a:Exp}{ks:List Exp}{d:Dfn}{t:Typ}(hk:e.k=10)(hks:e.kids=a::ks)(hfr:∀x∈B,x.id≠e.id)(hd:zAg p.defs e.ref=some d)(hdk:d.kind=1)(hl:ks.length=d.slots.length)(hl6:ks.length≤32768)(ha:WE p B a (zAy e.ref))
 (hw:∀(j:Nat)(hj:j<ks.length),WE p (B++[⟨e.id,j,(d.slots[j]'(hl▸hj)).typ⟩]) ks[j] t)(hV:EnvT p B V)(hN:NdV V)(hB:Bn c m s):zG2 p ev e V s:=by
 by_cases hf:(ev a V s).2.fail=0
 ·have hr:=h.ok a V s (.of ha hV hN) hB;have hB1:=(h.bd a V s hB).bn;obtain⟨hty,hz⟩:=h.snd a B V s _ ha hV hf;have hty:=hty.def_inv hd;have hfv:=hV.ids hfr;have hx:jR ev e V s=ev (e.kids.getD (1+(ev a V s).1.n).toNat .zero) (V++[⟨e.id,(ev a V s).1.n,(ev a V s).1.kids.headD vz⟩]) (ev a V s).2:=by unfold jR;rw[hks];simp[hf,hk]
  unfold zG2;rw[hx];clear hx;generalize ev a V s=r at *
  obtain⟨v,s1⟩:=r;simp only at *
  obtain⟨_,q,x,hm,rfl,hxt⟩:=hty.resolve_left (fun h=>by omega);have hmk:q<ks.length:=by omega
  have e2:(1+(q:Int)).toNat=q+1:=by omega
  have hw1:IntKind.i64.wrap (1+(q:Int))=((q+1:Nat):Int):=by rw[IntWalk.i64_in _ (by omega)]; omega
  simp only[jC,qH,List.headD_cons,e2,hks,List.getD_eq_getElem?_getD,List.getElem?_cons_succ,List.getElem?_eq_getElem hmk,Option.getD_some];have r1:=zKt ks[q] V e.id q x s1 _ (.of hfv q) (h.ok ks[q] (V++[⟨e.id,q,x⟩]) s1 (.of (hw q hmk) (hV.push ⟨hxt,zCC hz (by simp[qH])⟩) (hN.push (.of hfv q))) hB1);generalize ev ks[q] (V++[⟨e.id,q,x⟩]) s1=r' at *
  have hdr:(qU (a::ks)).drop ((q+1)*15)=zF ks[q]++qU (ks.drop (q+1)):=by
   have:=yQ (l:=a::ks) (i:=q+1) (by simpa using hmk)
   simpa using this
  have hlt:q+1<(a::ks).length:=by simpa using hmk
  refine zH Tryz.func144 rfl zRu (rs:=[.cell 6 3 true]) (by kernel_rfl) ?_;unfold zOH;have hP:=eP p;have h0:=zJ a ks;generalize hQ:a::ks=Q at *
  obtain⟨M,hM⟩:∃M,M=q+1:=⟨_,rfl⟩;rw[←hM]at hw1 hdr hlt;have hQ0:0<Q.length:=by omega
  have hq0:0<Q.length*15:=by omega
  have hq15:15≤Q.length*15:=by omega
  have ht:(qU Q).take 15=zF a:=by rw[h0]; exact List.take_left' rfl
  have ea:zF a=[int a.id.a,int a.id.b,int a.id.c,int a.k,int a.n,int a.ref.a,int a.ref.b,int a.ref.c,int a.typ.k,int a.typ.id.a,int a.typ.id.b,int a.typ.id.c,.sl a.typ.kids.length (jJ a.typ.kids),.sl a.kids.length (qU a.kids),.sl a.names.length (yT a.names)]:=rfl;rw[ea]at ht;clear h0;simp[tE,tS,hP,zF,hks,hQ0,hq0,hq15,ht,hk];refine zN hr [0,1,2,3,4,5,6] (by decide) (by simp[tE,tS,hP]) (by simp[zF]) ?_;simp[tE,tS,hP,zP,hf,jX,jC,qH,hw1,hlt,hdr,zF];refine zAn r1 [0,1,2,3,4,5,6] (by decide) (by simp[tE,tS,hP,hf]) (by simp[zF,zP]) ?_;simp[tE,tS,hP,zP];exact zG [0,1,2,3,4,5,6] 0 (by decide) (by simp) (by simp) (by simp[zP])
 ·exact zC8 h hks (.of ha hV hN) hB hf
set_option maxHeartbeats 2000000 in
theorem zMO (h:Ih p c m ev){l z b:Exp}{u t:Typ}(hk:e.k=12)(hks:e.kids=[l,z,b])(hfr:∀x∈B,x.id≠e.id)(hl:WE p B l (jH u))(hz:WE p B z t)(hb:WE p (B++[⟨e.id,0,u⟩]++[⟨e.id,1,t⟩]) b t)(hV:EnvT p B V)(hN:NdV V)(hB:Bn c m s):zG2 p ev e V s:=by
 by_cases hf:(ev l V s).2.fail=0
 ·have hr:=h.ok l V s (.of hl hV hN) hB;have hB1:=(h.bd l V s hB).bn;obtain⟨hty,hsz⟩:=h.snd l B V s _ hl hV hf;have hfv:=hV.ids hfr;have hx:jR ev e V s=zAt ev V e.id b (ev l V s).1.kids (ev z V (ev l V s).2):=by unfold jR;rw[hks];simp[hf,hk]
  unfold zG2;rw[hx];clear hx;generalize ev l V s=r at *
  obtain⟨v,s1⟩:=r;simp only at *
  obtain⟨vs,rfl,hvs⟩:=hty.list_inv;have hr2:=h.ok z V s1 (.of hz hV hN) hB1;have hB2:=h.bd z V s1 hB1;have ht2:=h.snd z B V s1 _ hz hV;generalize ev z V s1=r2 at *
  simp only[qH];have hst:∀i,Bd c m (zAt ev V e.id b (vs.take i) r2).2∧((zAt ev V e.id b (vs.take i) r2).2.fail=0→TyV p t (zAt ev V e.id b (vs.take i) r2).1∧qB (zAt ev V e.id b (vs.take i) r2).1≤256):=fun i =>
   ⟨zJ0 h.bd V e.id b _ _ hB2,zJ2 h.stop h.snd hV hb _ _ (fun x hx=>⟨hvs x (List.mem_of_mem_take hx),zCC hsz (List.mem_of_mem_take hx)⟩) ht2⟩
  have hround:∀(i:Nat) (hi:i<vs.length),TOk p (zAt ev V e.id b (vs.take (i+1)) r2) b (V++[⟨e.id,0,vs[i]⟩]++[⟨e.id,1,(zAt ev V e.id b (vs.take i) r2).1⟩]) (zAt ev V e.id b (vs.take i) r2).2:=fun i hi=>by rw[List.take_succ_eq_append_getElem hi,zJ1];refine h.ok _ _ _ (fun h0=>⟨_,t,hb,(hV.push ⟨hvs _ (List.getElem_mem hi),zCC hsz (List.getElem_mem hi)⟩).push ((hst i).2 h0),(hN.push (.of hfv 0)).push (.push hfv (by decide) _)⟩) (hst i).1.bn
  have htk:vs.take vs.length=vs:=List.take_length;have hF0:zAt ev V e.id b [] r2=r2:=rfl;refine zH Tryz.func144 rfl zRu (rs:=[.cell 6 3 true]) (by kernel_rfl) ?_;unfold zOH;have hP:=eP p;simp[tE,tS,hP,zF,hks,zJ,hk];refine zN hr [0,1,2,3,4,5,6] (by decide) (by simp[tE,tS,hP]) (by simp[zF]) ?_;simp[tE,tS,hP,zP,hf,jX,jC,qH];refine zN hr2 [0,1,2,3,4,5,6] (by decide) (by simp[tE,tS,hP,hf]) (by simp[zF]) ?_;simp[tE,tS,hP,zP,qH];intro hvl;refine qY (S:=Nat) (fun i=>[(0,.ptr 0 0),(2,.map 6),(4,.ptr 7 0),(6,.ptr 8 0),(8,.ptr 9 0),(97,.sl vs.length (zZ vs)),(98,int vs.length),(99,int i)])
   (fun i=>tE p (zAt ev V e.id b (vs.take i) r2).2 V++[.box (zF e),.box [int 0,int 0,.nil],.box (zP (zAt ev V e.id b (vs.take i) r2).1)]) (fun i=>i≤vs.length) (fun i=>vs.length-i) 0 (by simp)
   (zR [0,1,2,3,4,5,6,7,8,10] 0 (by decide) (by simp) (by simp[tE,tS,hP,zF,hks,zJ,hk,zP,hF0]) (by simp)) ?_
  intro i hi;by_cases hil:i<vs.length
  ·have hro:=hround i hil;have hdr:=yF hil;generalize hFn:zAt ev V e.id b (vs.take (i+1)) r2=Fn at hro;generalize hFi:zAt ev V e.id b (vs.take i) r2=Fi at hro;obtain⟨acc,si⟩:=Fi;simp only at hro;generalize vs[i]=x at *
   have p1:=zIU (i:=e.id) (n:=0) (V:=V) (v:=x) (.of hfv 0);have d1:=zLV (i:=e.id) (n:=0) (V:=V) (v:=x) (.of hfv 0);have wo:=zKt b (V++[⟨e.id,0,x⟩]) e.id 1 acc si Fn (.push hfv (by decide) x) hro;simp[tE,tS,hP,zF,hks,zJ,hk,zP,hil,hdr,p1,hFi];refine zAn wo [0,1,2,3,4,5,6] (by decide) (by simp[tE,tS,hP]) (by simp[zF,zP]) ?_;simp[tE,tS,hP,zP,d1];exact zT (i+1) hil (by omega) (zR [0,1,2,3,4,5,6,7,8,9] 0 (by decide) (by simp) (by simp[tE,tS,hP,zF,hks,zJ,hk,zP,hFn]) (by simp[qD hil hvl]))
  ·have hil:i=vs.length:=by omega
   subst hil;rw[htk];simp[tE,tS,hP,zP];exact zG [0,1,2,3,4,5,6] 0 (by decide) (by simp) (by simp) (by simp[zP])
 ·exact zC8 h hks (.of hl hV hN) hB hf
end
section
variable {p:Prg}{c:Nat}{m:Int}{ev:Evl}{e:Exp}{V:List EVar}{s:XS}
def qEZ:K:=G [kO 4 1,kZ 6 [ki,ki,kl]] (Z (G [M 10 0,kU 11 10,D 12 11 3,L 13 12 1,kQi 14 13 0 true] (Y 14 (G [kb 15 [ki,ki,kl] [],S 6 15 3] kr) ks)) (Z (K.dops [(0,0,M 16 0),(1,0,kU 17 16),(2,0,D 18 17 4),(3,0,L 19 18 1),(4,0,D 20 4 0),(5,0,J 21 20 3),(6,4,⟨none,.call (some 22) (kt 19) [(.const (.bool true)),(kt 21)]⟩)]) (G [⟨none,.mop (some 23) (.mk 4) []⟩,M 7 23] (Z (G [D 24 4 8,L 25 24 1,kN 26 25,kMi 27 0] (K.block 0 (K.loop (G [kB 28 27 26 .lss] (Z (Y 28 ks (K.exit 0)) (Z (K.block 1 (G [M 29 27,kX 30 25 27 11,J 31 30 11,kZ 9 kz5,M 8 29,S 9 31 11] (K.dops [(0,0,M 32 7),(1,0,D 33 9 0),(2,0,J 34 33 3),(3,0,kb 35 zGX [(0,3,(kt 34)),(3,1,(kc 0))]),(4,0,M 36 2),(5,0,M 37 8),(6,0,kX 38 36 37 3),(7,0,J 39 38 3),(8,0,⟨none,.mop none (.set 4) [(kt 32),(kt 35),(kt 39)]⟩)]))) (K.ops [kBi 40 27 1 .add,M 27 40]))))))) (G [M 41 0,D 42 4 14,J 43 42 15,M 44 7,kC 45 93 [(kt 41),(kt 43),(kt 44)],S 6 45 3] kr)))))
def qN2:Nat→Option (List (Nat×Nat)):=fun r=>match r with | 3=>some [(0,0),(1,0),(2,0),(3,0),(4,0),(5,0),(6,4)] | _=>none
theorem qL5:qC Tryz.prog Tryz.f47.ntmps qN2 (Tryz.f47.body.getD .skip)=some qEZ.erase:=by kernel_rfl
@[simp] theorem qMC:zA Tryz.prog 47=true:=by kernel_rfl
set_option maxHeartbeats 1000000 in
theorem zQt (h:Ih p c m ev)(hc:c≤100000)(d:Dfn)(vs:List Val)(hl:s.fail=0→vs.length=d.slots.length)(hnd:d.slots.Pairwise fun a b=>a.id≠b.id)(hd6:d.slots.length≤6)
 (hA:s.fail=0→Adm p d.body (zCA d.slots vs) {s with ds:=s.ds++[d.id]})(hB:Bd c m s) :
 Ret Tryz.prog 47 [.ptr 0 0,.agg (zO d),.sl vs.length (zZ vs)] (tS p s) (.agg (zP (zB6 ev d vs s).1)) (tS p (zB6 ev d vs s).2):=by
 have hP:=eP p;refine zH Tryz.func47 rfl qL5 (rs:=[.cell 6 3 true]) (by kernel_rfl) ?_;unfold qEZ;by_cases hf:s.fail=0
 ·have hx:zB6 ev d vs s=ev d.body (zCA d.slots vs) {s with ds:=s.ds++[d.id]}:=by unfold zB6; rw[if_neg (by simp[hf])]
  rw[hx];have hl:=hl hf;have hb1:=hB.ds;have hb2:=hB.ns;have hb3:=zLU s.ns;have hn:=zMp true d.id s.ds (ddL s.ns) (by omega) (by omega);have he:=h.ok _ _ _ (hA hf) (hB.def d.id hf);generalize ev d.body (zCA d.slots vs) {s with ds:=s.ds++[d.id]}=r at *
  have hel:=zGJ d.slots vs hl;have hfr:∀(i:Nat) (hi:i<d.slots.length),Fr ((zCA d.slots vs).take i) d.slots[i].id 0:=fun i hi b hb e=>by
   obtain⟨j,hj,rfl⟩:=List.getElem_of_mem hb;rw[List.length_take]at hj;have hj1:j<d.slots.length:=by omega
   have hij:j<i:=by omega
   have:=List.pairwise_iff_getElem.1 hnd j i hj1 hi hij;have e1:((zCA d.slots vs).take i)[j].id=d.slots[j].id:=by simp[zCA]
   exact this (e1.symm.trans e.1)
  have h0:zDq []=[]:=rfl;have hall:(zCA d.slots vs).take d.slots.length=zCA d.slots vs:=by rw[←hel]; exact List.take_length
  simp[tS,hP,zO,hf];refine zAn hn [1,2,3,4,5] (by decide) (by simp[nS]) (by simp[qF]) ?_;simp[nS];intro hls;refine qY (S:=Nat) (fun i=>[(0,.ptr 0 0),(2,.sl vs.length (zZ vs)),(4,.ptr 6 0),(6,.ptr 7 0),(7,.map 8),(25,.sl d.slots.length (jT d.slots)),(26,int d.slots.length),(27,int i)])
   (fun i=>tS p {s with ds:=s.ds++[d.id]}++[.box (zO d),.box [int 0,int 0,.nil],.mp false 4 (zDq ((zCA d.slots vs).take i))]) (fun i=>i≤d.slots.length) (fun i=>d.slots.length-i) 0 (by simp)
   ((zXK (l:=8) rfl).trans (zR [0,1,2,3,4,5,6,7,8] 0 (by decide) (by simp) (by simp[tS,hP,zO,hf,h0,jD,zX]) (by simp))) ?_
  intro i hi;by_cases hil:i<d.slots.length
  ·have hiv:i<vs.length:=by omega
   have hdr:=jP hil;have hdv:=yF hiv;have hp:=zIU (v:=vs[i]) (hfr i hil);have htk:=zR7 hl hil;simp[tS,hP,zO,hil,hiv,hdr,hdv,zAi,zNJ,zGV,zFR,hp];exact zT (i+1) hil (by omega) (zR [0,1,2,3,4,5,6,7,8] 0 (by decide) (by simp) (by simp[tS,hP,zO,htk]) (by simp[qD hil hls]))
  ·have hil:i=d.slots.length:=by omega
   subst hil;rw[hall];simp[tS,hP,zO];refine zN he [0,1,2,3,4,5,8] (by decide) (by simp[tE,tS,hP]) (by simp[zF]) ?_;simp[tE,tS,hP,zP];exact zG [0,1,2,3,4,5] 0 (by decide) (by simp) (by simp) (by simp[zP])
 ·have hx:zB6 ev d vs s=(vz,s):=by unfold zB6; rw[if_pos hf]
  rw[hx];simp[tS,hP,zO,hf];exact zG [0,1,2,3,4,5] 0 (by decide) (by simp) (by simp) (by simp[zP,jX,jC,qH])
def zIn:K:=(Z (G [M 58 0,kU 59 58,D 60 59 3,L 61 60 1,kQi 62 61 0 true] (Y 62 (G [kb 63 [ki,ki,kl] [],S 6 63 3] kr) ks)) (Z (G [D 64 4 3,L 65 64 1] (K.block 3 (G [kQi 67 65 3 false,M 66 67] (Y 66 (Z (K.dops [(0,0,M 69 0),(1,0,kU 70 69),(2,1,D 71 70 0),(3,1,J 72 71 2),(4,1,D 73 4 5),(5,1,J 74 73 3),(6,1,kC 75 42 [(kt 72),(kt 74)]),(7,0,M 68 75),(8,0,kE 76 68 0),(9,0,kE 77 68 1),(10,0,kZ 10 kz0),(11,0,S 10 76 31),(12,0,M 11 77)]) (G [M 78 0,J 79 10 31,M 80 7,kC 81 47 [(kt 78),(kt 79),(kt 80)],S 6 81 3] kr)) (G [kQi 83 65 4 false,M 82 83] (Y 82 (G [D 84 4 4,L 85 84 1,M 86 7,kC 87 145 [(kt 85),(kt 86)],S 6 87 3] kr) (G [kQi 89 65 7 false,M 88 89] (Y 88 (G [M 90 7,kb 91 [ki,ki,kl] [(0,1,(kc 2)),(2,1,(kt 90))],S 6 91 3] kr) (G [kQi 93 65 9 false,M 92 93] (Y 92 (G [D 94 4 4,L 95 94 1,M 96 7,kb 97 [ki,ki,kl] [(0,1,(kc 3)),(1,1,(kt 95)),(2,1,(kt 96))],S 6 97 3] kr) ks)))))))))) (G [M 98 7,kb 99 [ki,ki,kl] [(0,1,(kc 4)),(2,1,(kt 98))],S 6 99 3] kr)))
def zRn:K:=G [kO 4 1,kZ 6 [ki,ki,kl]] (Z (G [D 12 4 3,L 13 12 1] (K.block 0 (G [kQi 15 13 0 false,M 14 15] (Y 14 (G [D 16 4 4,L 17 16 1,kb 18 [ki,ki,kl] [(0,1,(kc 0)),(1,1,(kt 17))],S 6 18 3] kr) (G [kQi 20 13 1 false,M 19 20] (Y 19 (G [D 21 4 4,L 22 21 1,kb 23 [ki,ki,kl] [(0,1,(kc 1)),(1,1,(kt 22))],S 6 23 3] kr) (G [kQi 25 13 2 false,M 24 25] (Y 24 (G [M 26 2,D 27 4 5,J 28 27 3,D 29 4 4,L 30 29 1,kb 31 zGX [(0,3,(kt 28)),(3,1,(kt 30))],⟨none,.mop (some 32) (.get 4 (.agg #[ki,ki,kl]) false) [(kt 26),(kt 31)]⟩,S 6 32 3] kr) (Z (G [kQi 34 13 5 false,M 33 34] (Y 33 ks (G [kQi 35 13 6 false,M 33 35] (Y 33 ks (G [kQi 36 13 8 false,M 33 36] (Y 33 ks (G [kQi 37 13 10 false,M 33 37] (Y 33 ks (K.ops [kQi 38 13 12 false,M 33 38]))))))))) (Y 33 (G [M 39 0,J 40 4 15,M 41 2,kC 42 144 [(kt 39),(kt 40),(kt 41)],S 6 42 3] kr) ks)))))))))) (G [kMn 7] (Z (G [D 43 4 13,L 44 43 1,kN 45 44,kMi 46 0] (K.block 1 (K.loop (G [kB 47 46 45 .lss] (Z (Y 47 ks (K.exit 1)) (Z (K.block 2 (G [kX 48 44 46 15,J 49 48 15,kZ 9 kz1,S 9 49 15] (K.ops [M 50 7,M 51 0,J 52 9 15,M 53 2,kC 54 93 [(kt 51),(kt 52),(kt 53)],kd 55 47 3 1 [ki,ki,kl] [(0,3,(kt 54))],kP 56 47 3 40 50 55,M 7 56]))) (K.ops [kBi 57 46 1 .add,M 46 57]))))))) (K.wk zIn))))
theorem zT7:zL Tryz.prog Tryz.f129.ntmps (Tryz.f129.body.getD .skip)=some zRn.erase:=by kernel_rfl
@[simp] theorem qMI:zA Tryz.prog 129=true:=by kernel_rfl
abbrev zOJ (p:Prg)(e:Exp)(V:List EVar)(s:XS)(r:Val×XS):Prop:=Ret Tryz.prog 129 [.ptr 0 0,.agg (zF e),.map 6] (tE p s V) (.agg (zP r.1)) (tE p r.2 V)
abbrev zCm (p:Prg)(e:Exp)(V:List EVar)(s:XS)(vs:List Val)(r:Val×XS):Prop :=
 wpK Tryz.prog 7 zIn (fin [RS.cell 6 3 true] (zHy 7 (.agg (zP r.1)) (tE p r.2 V))) (qR [(0,.ptr 0 0),(2,.map 6),(4,.ptr 7 0),(6,.ptr 8 0),(7,.sl vs.length (zZ vs))]) (tE p s V++[.box (zF e),.box [int 0,int 0,.nil]])
set_option maxHeartbeats 1000000 in
theorem zDn (h:Ih p c m ev){r:Val×XS}(hk:e.k=3∨e.k=4∨e.k=7∨e.k=9∨e.k=11)(hk6:e.kids.length≤32768)(hA:∀k∈e.kids,∀s,Adm p k V s)(hB:Bd c m s)
 (hr:zCm p e V (jE ev V e.kids s).2 (jE ev V e.kids s).1 r):zOJ p e V s r:=by
 have hP:=eP p;refine zH Tryz.func129 rfl zT7 (rs:=[.cell 6 3 true]) (by kernel_rfl) ?_;unfold zRn;have n0:¬e.k=0:=by omega
 have n1:¬e.k=1:=by omega
 have n2:¬e.k=2:=by omega
 have n5:¬e.k=5:=by omega
 have n6:¬e.k=6:=by omega
 have n8:¬e.k=8:=by omega
 have n10:¬e.k=10:=by omega
 have n12:¬e.k=12:=by omega
 have hst:∀i,Bd c m (jE ev V (e.kids.take i) s).2:=fun i=>zIM h.bd V _ _ hB
 have hln:∀i,i≤e.kids.length→(jE ev V (e.kids.take i) s).1.length=i:=fun i hi=>by rw[zG9,List.length_take]; omega
 have h00:jE ev V [] s=([],s):=rfl;simp[tE,tS,hP,zF,n0,n1,n2,n5,n6,n8,n10,n12];intro hl;refine qY (S:=Nat) (fun i=>[(0,.ptr 0 0),(2,.map 6),(4,.ptr 7 0),(6,.ptr 8 0),(7,.row 9 i),(44,.sl e.kids.length (qU e.kids)),(45,int e.kids.length),(46,int i)])
  (fun i=>tE p (jE ev V (e.kids.take i) s).2 V++[.box (zF e),.box [int 0,int 0,.nil],.row false 47 3 i (zZ (jE ev V (e.kids.take i) s).1)]) (fun i=>i≤e.kids.length) (fun i=>e.kids.length-i) 0 (by simp)
  ((yK (t:=7) (by simp) 47 3).trans (zR [0,1,2,3,4,5,6,7,8,9] 0 (by decide) (by simp) (by simp[tE,tS,hP,zF,h00]) (by simp))) ?_
 intro i hi;by_cases hil:i<e.kids.length
 ·have hr:=h.ok e.kids[i] V (jE ev V (e.kids.take i) s).2 (hA _ (List.getElem_mem hil) _) (hst i).bn;have hsn:=zKO ev V e.kids[i] (e.kids.take i) s;rw[←List.take_succ_eq_append_getElem hil]at hsn;have hdr:=yQ hil;have hln:=hln i hi;generalize hFn:jE ev V (e.kids.take (i+1)) s=Fn at hsn;subst hsn;generalize hFi:jE ev V (e.kids.take i) s=Fi at *
  obtain⟨vs,si⟩:=Fi;simp only at *
  generalize ev e.kids[i] V si=rk at *
  obtain⟨v,sk⟩:=rk;simp only at *
  simp[tE,tS,hP,hil,hdr,hFi,zF];refine zN hr [0,1,2,3,4,5,6] (by decide) (by simp[tE,tS,hP]) (by simp[zF]) ?_;simp[tE,tS,hP,zP];refine⟨⟨by simp[maxLen]; omega,by omega⟩,?_⟩;exact zT (i+1) hil (by omega) (zR [0,1,2,3,4,5,6,7,8,9] 0 (by decide) (by simp) (by simp[tE,tS,hP,zF,hFn,zBB]) (by simp[qD hil hl]))
 ·have hil:i=e.kids.length:=by omega
  subst hil;have htk:e.kids.take e.kids.length=e.kids:=List.take_length;have hln:=hln _ (Nat.le_refl _);rw[htk]at hln ⊢;generalize jE ev V e.kids s=F at *
  obtain⟨vs,si⟩:=F;simp only at *
  simp;exact⟨_,_,zR [0,1,2,3,4,5,6,7,8] 1 (by decide) (by simp) (by simp[tE,tS,hP,zF]) (by simp[tE,tS,hln]),hr⟩
theorem zDU {vs:List Val}(hf:s.fail≠0):zCm p e V s vs (vz,s):=by have hP:=eP p;unfold zCm zIn;simp[tE,tS,hP,zF,hf];exact zG [0,1,2,3,4,5,6] 0 (by decide) (by simp) (by simp) (by simp[zP,jX,jC,qH])
theorem zVn {vs:List Val}(hf:s.fail=0)(hk:e.k=7):zCm p e V s vs (.mk 2 0 vs,s):=by have hP:=eP p;unfold zCm zIn;simp[tE,tS,hP,zF,hf,hk];exact zG [0,1,2,3,4,5,6] 0 (by decide) (by simp) (by simp[hf]) (by simp[zP,jX,jC,qH])
theorem zS0 {vs:List Val}(hf:s.fail=0)(hk:e.k=9):zCm p e V s vs (.mk 3 e.n vs,s):=by have hP:=eP p;unfold zCm zIn;simp[tE,tS,hP,zF,hf,hk];exact zG [0,1,2,3,4,5,6] 0 (by decide) (by simp) (by simp[hf]) (by simp[zP,jX,jC,qH])
theorem zS1 {vs:List Val}(hf:s.fail=0)(hk:e.k=11):zCm p e V s vs (.mk 4 0 vs,s):=by have hP:=eP p;unfold zCm zIn;simp[tE,tS,hP,zF,hf,hk];exact zG [0,1,2,3,4,5,6] 0 (by decide) (by simp) (by simp[hf]) (by simp[zP,jX,jC,qH])
theorem zXA {ts:List Typ}{t:Typ}{vs:List Val}(hf:s.fail=0)(hk:e.k=4)(ho:OpT e.n ts t)(hv:TyL p ts vs)(hs:∀v∈vs,qB v≤256):zCm p e V s vs (opV e.n vs,s):=by have hP:=eP p;unfold zCm zIn;simp[tE,tS,hP,zF,hf,hk];refine zQ (qAT ho hv hs) (by simp) (by simp[zP]) ?_;simp[zP];exact zG [0,1,2,3,4,5,6] 0 (by decide) (by simp) (by simp[hf]) (by simp[zP])
theorem zSz {d:Dfn}{vs:List Val}{r:Val×XS}(hf:s.fail=0)(hk:e.k=3)(hd:zAg p.defs e.ref=some d)
 (hb:Ret Tryz.prog 47 [.ptr 0 0,.agg (zO d),.sl vs.length (zZ vs)] (tS p s) (.agg (zP r.1)) (tS p r.2)):zCm p e V s vs r:=by
 have hP:=eP p;unfold zCm zIn;simp[tE,tS,hP,zF,hf,hk];refine zAr (zJm p e.ref) (by simp[zU,qF]) (by simp[zBj]) ?_;simp[zBj,hd,zO];refine zN hb [0,1,2,3,4,5] (by decide) (by simp[tS,hP,hf]) (by simp[zO]) ?_;simp[tS,hP,zP];exact zG [0,1,2,3,4,5,6] 0 (by decide) (by simp) (by simp) (by simp[zP])
end
end Go.Proofs.YthglhccibdlccaaGreatDoor
