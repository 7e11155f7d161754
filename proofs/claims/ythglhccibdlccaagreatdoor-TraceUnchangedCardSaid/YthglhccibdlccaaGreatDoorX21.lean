/-
  trace: branches.
  trace: bodies, values, nodes.
  eval: nodes in order, bodies.
  trace: nodes.
  The reference's tracer: lists of nodes, bodies.
  eval: branches.
  trace.Call.
  The reference's evaluator: lists of nodes, bodies.
  The reference's tracer: values.
  The reference: the names in types, and what they reach.
-/
import Derived.Test.YthglhccibdlccaaGreatDoorX20
import Derived.Test.YthglhccibdlccaaGreatDoorX11
import Derived.Test.YthglhccibdlccaaGreatDoorX12
import Derived.Test.YthglhccibdlccaaGreatDoorX19
import Derived.Test.YthglhccibdlccaaGreatDoorX14
import Derived.Test.YthglhccibdlccaaGreatDoorX17
set_option linter.unusedVariables false
set_option maxHeartbeats 8000000
set_option maxRecDepth 100000
set_option linter.unusedSimpArgs false
open Go.Proofs.Tryz (prog)
namespace Go.Proofs.YthglhccibdlccaaGreatDoor
open Go.Abs
def Adm (p:Prg)(e:Exp)(V:List EVar)(s:XS):Prop:=s.fail=0→∃B t,WE p B e t∧EnvT p B V∧NdV V
structure Ih (p:Prg)(c:Nat)(m:Int)(ev:Evl):Prop where
 stop:zHG ev
 snd:Snd p ev
 bd:∀e V s,Bn c m s→Bd c m (ev e V s).2
 ok:∀e V s,Adm p e V s→Bn c m s→TOk p (ev e V s) e V s
section
variable {p:Prg}{c:Nat}{m:Int}{ev:Evl}{B:List Bnd}{e:Exp}{V:List EVar}{s:XS}
theorem Adm.of {t:Typ}(h:WE p B e t)(hV:EnvT p B V)(hN:NdV V):Adm p e V s:=fun _=>⟨B,t,h,hV,hN⟩
theorem Adm.bad (h:s.fail≠0):Adm p e V s:=fun e=>(h e).elim
def zQC:K:=G [kO 4 1,kZ 6 [ki,ki,kl]] (G [M 13 0,D 14 4 13,L 15 14 1,kXi 16 15 15 0,J 17 16 15,M 18 2,kC 19 93 [(kt 13),(kt 17),(kt 18)],kZ 7 [ki,ki,kl],S 7 19 3] (Z (G [M 20 0,kU 21 20,D 22 21 3,L 23 22 1,kQi 24 23 0 true] (Y 24 (G [kb 25 [ki,ki,kl] [],S 6 25 3] kr) ks)) (Z (G [D 26 4 3,L 27 26 1] (K.block 0 (G [kQi 29 27 5 false,M 28 29] (Y 28 (Z (G [D 30 7 1,L 31 30 1,kQi 32 31 1 false] (Y 32 (G [M 33 0,D 34 4 13,L 35 34 1,kXi 36 35 15 1,J 37 36 15,M 38 2,kC 39 93 [(kt 33),(kt 37),(kt 38)],S 6 39 3] kr) ks)) (G [M 40 0,D 41 4 13,L 42 41 1,kXi 43 42 15 2,J 44 43 15,M 45 2,kC 46 93 [(kt 40),(kt 44),(kt 45)],S 6 46 3] kr)) (G [kQi 48 27 6 false,M 47 48] (Y 47 (Z (K.dops [(0,0,M 49 0),(1,0,D 50 4 13),(2,0,L 51 50 1),(3,0,kXi 52 51 15 1),(4,0,J 53 52 15),(5,0,M 54 2),(6,0,D 55 4 0),(7,0,J 56 55 3),(8,0,kb 57 zGW [(0,3,(kt 56)),(3,1,(kc 0))]),(9,0,J 58 7 3),(10,4,kC 59 166 [(kt 49),(kt 53),(kt 54),(kt 57),(kt 58)]),(11,0,S 6 59 3)]) kr) (G [kQi 61 27 8 false,M 60 61] (Y 60 (G [D 62 7 2,L 63 62 1,D 64 4 4,L 65 64 1,kX 66 63 65 3,J 67 66 3,S 6 67 3] kr) (G [kQi 69 27 10 false,M 68 69] (Y 68 (Z (K.dops [(0,0,M 70 0),(1,0,D 71 4 13),(2,0,L 72 71 1),(3,0,D 73 7 1),(4,0,L 74 73 1),(5,0,⟨none,.bin (some 75) .add (kc 1) (kt 74)⟩),(6,0,kX 76 72 75 15),(7,0,J 77 76 15),(8,0,M 78 2),(9,0,D 79 4 0),(10,0,J 80 79 3),(11,0,D 81 7 1),(12,0,L 82 81 1),(13,0,kb 83 zGW [(0,3,(kt 80)),(3,1,(kt 82))]),(14,0,D 84 7 2),(15,0,L 85 84 1),(16,0,kXi 86 85 3 0),(17,0,
 J 87 86 3),(18,4,kC 88 166 [(kt 70),(kt 77),(kt 78),(kt 83),(kt 87)]),(19,0,S 6 88 3)]) kr) ks)))))))))) (G [M 89 0,D 90 4 13,L 91 90 1,kXi 92 91 15 1,J 93 92 15,M 94 2,kC 95 93 [(kt 89),(kt 93),(kt 94)],kZ 8 [ki,ki,kl],S 8 95 3] (Z (G [D 96 7 2,L 97 96 1,kN 98 97,kMi 99 0] (K.block 1 (K.loop (G [kB 100 99 98 .lss] (Z (Y 100 ks (K.exit 1)) (Z (K.block 2 (G [kX 101 97 99 3,J 102 101 3,kZ 10 [ki,ki,kl],S 10 102 3] (G [J 103 8 3,kZ 11 [ki,ki,kl],S 11 103 3] (G [D 104 4 0,J 105 104 3,kb 106 zGW [(0,3,(kt 105)),(3,1,(kc 0))],kZ 12 zGW,S 12 106 4] (G [M 107 2,J 108 12 4,J 109 10 3,⟨none,.mop none (.set 4) [(kt 107),(kt 108),(kt 109)]⟩] (Z (K.dops [(0,0,M 110 0),(1,0,D 111 4 13),(2,0,L 112 111 1),(3,0,kXi 113 112 15 2),(4,0,J 114 113 15),(5,0,M 115 2),(6,0,D 116 4 0),(7,0,J 117 116 3),(8,0,kb 118 zGW [(0,3,(kt 117)),(3,1,(kc 1))]),(9,0,J 119 11 3),(10,4,kC 120 166 [(kt 110),(kt 114),(kt 115),(kt 118),(kt 119)]),(11,0,S 8 120 3)]) (K.ops [M 121 2,J 122 12 4,⟨none,.mop none (.del 4) [(kt 121),(kt 122)]⟩]))))))) (K.ops [kBi 123 99 1 .add,M 99 123]))))))) (G [J 124 8 3,S 6 124 3] kr))))))
def qQK:Nat→Option (List (Nat×Nat)):=fun r=>match r with | 10=>some [(0,0),(1,0),(2,0),(3,0),(4,0),(5,0),(6,0),(7,0),(8,0),(9,0),(10,4),(11,0)] | 14=>some [(0,0),(1,0),(2,0),(3,0),(4,0),(5,0),(6,0),(7,0),(8,0),(9,0),(10,0),(11,0),(12,0),(13,0),(14,0),(15,0),(16,0),(17,0),(18,4),(19,0)] | 22=>some [(0,0),(1,0),(2,0),(3,0),(4,0),(5,0),(6,0),(7,0),(8,0),(9,0),(10,4),(11,0)] | _=>none
theorem zTu:qD prog Tryz.f144.ntmps qQK (Tryz.f144.body.getD .skip)=some zQC.erase:=by kernel_rfl
@[simp] theorem qPS:zA prog 144=true:=by kernel_rfl
abbrev zHE (p:Prg)(ev:Evl)(e:Exp)(V:List EVar)(s:XS):Prop:=Ret prog 144 [.ptr 0 0,.agg (zF e),.map 6] (tE p s V) (.agg (zJ (jI ev e V s).1)) (tE p (jI ev e V s).2 V)
theorem zDh (h:Ih p c m ev){a:Exp}{ks:List Exp}(hks:e.kids=a::ks)(hA:Adm p a V s)(hB:Bn c m s)(hf:(ev a V s).2.fail≠0):zHE p ev e V s:=by
 have hr:=h.ok a V s hA hB;have hx:jI ev e V s=(vz,(ev a V s).2):=by unfold jI; rw[hks]; simp[hf]
 unfold zHE;rw[hx];generalize ev a V s=r at hr hf;refine zI Tryz.func144 rfl zTu (rs:=[.cell 6 3 true]) (by kernel_rfl) ?_;unfold zQC;have hP:=eP p;have hd:=zH a ks;simp[tE,tS,hP,zF,hks,zH];refine zN hr [0,1,2,3,4,5,6] (by decide) (by simp[tE,tS,hP]) (by simp[zF]) ?_;simp[tE,tS,hP,zJ,hf];exact zG [0,1,2,3,4,5,6] 0 (by decide) (by simp) (by simp) (by simp[zJ,qG,zZ,zM])
theorem zQH (h:Ih p c m ev){a b d:Exp}{t:Typ}(hk:e.k=5)(hks:e.kids=[a,b,d])(ha:WE p B a yC)(hb:WE p B b t)(hd:WE p B d t)(hV:EnvT p B V)(hN:NdV V)(hB:Bn c m s):zHE p ev e V s:=by
 by_cases hf:(ev a V s).2.fail=0
 ·have hr:=h.ok a V s (.of ha hV hN) hB;have hB1:=(h.bd a V s hB).bn;have hty:=(h.snd a B V s _ ha hV hf).1.bool_inv;have hx:jI ev e V s=ev (if (ev a V s).1.n=1 then b else d) V (ev a V s).2:=by unfold jI;rw[hks];simp only[jD9,hf,hk];by_cases hn:(ev a V s).1.n=1<;>simp[hn]
  unfold zHE;rw[hx];clear hx;generalize ev a V s=r at *
  obtain⟨v,s1⟩:=r;simp only at *
  have r1:=h.ok b V s1 (.of hb hV hN) hB1;have r2:=h.ok d V s1 (.of hd hV hN) hB1;obtain⟨x,rfl,hxx⟩:=hty;refine zI Tryz.func144 rfl zTu (rs:=[.cell 6 3 true]) (by kernel_rfl) ?_;unfold zQC;have hP:=eP p;simp[tE,tS,hP,zF,hks,zH,hk];refine zN hr [0,1,2,3,4,5,6] (by decide) (by simp[tE,tS,hP]) (by simp[zF]) ?_;rcases hxx with rfl | rfl
  ·simp[tE,tS,hP,zJ,hf,qG,zZ,zM];refine zN r2 [0,1,2,3,4,5,6] (by decide) (by simp[tE,tS,hP,hf]) (by simp[zF]) ?_;simp[tE,tS,hP,zJ];exact zG [0,1,2,3,4,5,6] 0 (by decide) (by simp) (by simp) (by simp[zJ])
  ·simp[tE,tS,hP,zJ,hf,qG,zZ,zM];refine zN r1 [0,1,2,3,4,5,6] (by decide) (by simp[tE,tS,hP,hf]) (by simp[zF]) ?_;simp[tE,tS,hP,zJ];exact zG [0,1,2,3,4,5,6] 0 (by decide) (by simp) (by simp) (by simp[zJ])
 ·exact zDh h hks (.of ha hV hN) hB hf
theorem zQI (h:Ih p c m ev){a b:Exp}{u t:Typ}(hk:e.k=6)(hks:e.kids=[a,b])(hfr:∀x∈B,x.id≠e.id)(ha:WE p B a u)(hb:WE p (B++[⟨e.id,0,u⟩]) b t)(hV:EnvT p B V)(hN:NdV V)(hB:Bn c m s):zHE p ev e V s:=by
 by_cases hf:(ev a V s).2.fail=0
 ·have hr:=h.ok a V s (.of ha hV hN) hB;have hB1:=(h.bd a V s hB).bn;have hty:=h.snd a B V s _ ha hV hf;have hfv:=hV.ids hfr;have hx:jI ev e V s=ev b (V++[⟨e.id,0,(ev a V s).1⟩]) (ev a V s).2:=by unfold jI;rw[hks];simp[hf,hk]
  unfold zHE;rw[hx];clear hx;generalize ev a V s=r at *
  obtain⟨v,s1⟩:=r;simp only at *
  have r1:=zMe b V e.id 0 v s1 _ (.of hfv 0) (h.ok b (V++[⟨e.id,0,v⟩]) s1 (.of hb (hV.push hty) (hN.push (.of hfv 0))) hB1);generalize ev b (V++[⟨e.id,0,v⟩]) s1=r' at *
  refine zI Tryz.func144 rfl zTu (rs:=[.cell 6 3 true]) (by kernel_rfl) ?_;unfold zQC;have hP:=eP p;simp[tE,tS,hP,zF,hks,zH,hk];refine zN hr [0,1,2,3,4,5,6] (by decide) (by simp[tE,tS,hP]) (by simp[zF]) ?_;simp[tE,tS,hP,zJ,hf];refine zA8 r1 [0,1,2,3,4,5,6] (by decide) (by simp[tE,tS,hP,hf]) (by simp[zF,zJ]) ?_;simp[tE,tS,hP,zJ];exact zG [0,1,2,3,4,5,6] 0 (by decide) (by simp) (by simp) (by simp[zJ])
 ·exact zDh h hks (.of ha hV hN) hB hf
theorem zNJ (h:Ih p c m ev){a:Exp}{d:Dfn}{j:Nat}(hk:e.k=8)(hn:e.n=j)(hks:e.kids=[a])(hd:jO p.defs e.ref=some d)(hdk:d.kind=0)(hj:j<d.slots.length)(ha:WE p B a (zBA e.ref))(hV:EnvT p B V)(hN:NdV V)(hB:Bn c m s):zHE p ev e V s:=by
 by_cases hf:(ev a V s).2.fail=0
 ·have hr:=h.ok a V s (.of ha hV hN) hB;have hty:=(h.snd a B V s _ ha hV hf).1.def_inv hd;have hx:jI ev e V s=((ev a V s).1.kids.getD j vz,(ev a V s).2):=by unfold jI;rw[hks];simp[hf,hk,hn]
  unfold zHE;rw[hx];clear hx;generalize ev a V s=r at *
  obtain⟨v,s1⟩:=r;simp only at *
  obtain⟨_,vs,hl,rfl,_⟩:=hty.resolve_right (fun h=>by omega);have hjv:j<vs.length:=by omega
  refine zI Tryz.func144 rfl zTu (rs:=[.cell 6 3 true]) (by kernel_rfl) ?_;unfold zQC;have hP:=eP p;simp[tE,tS,hP,zF,hks,zH,hk,hn];refine zN hr [0,1,2,3,4,5,6] (by decide) (by simp[tE,tS,hP]) (by simp[zF]) ?_;simp[tE,tS,hP,zJ,hf,qG,zZ,zM,hjv,jN hjv];exact zG [0,1,2,3,4,5,6] 0 (by decide) (by simp) (by simp) (by simp[zJ,zM,hjv])
 ·exact zDh h hks (.of ha hV hN) hB hf
theorem zNK (h:Ih p c m ev){a:Exp}{ks:List Exp}{d:Dfn}{t:Typ}(hk:e.k=10)(hks:e.kids=a::ks)(hfr:∀x∈B,x.id≠e.id)(hd:jO p.defs e.ref=some d)(hdk:d.kind=1)(hl:ks.length=d.slots.length)(hl6:ks.length≤32768)(ha:WE p B a (zBA e.ref))
 (hw:∀(j:Nat)(hj:j<ks.length),WE p (B++[⟨e.id,j,(d.slots[j]'(hl▸hj)).typ⟩]) ks[j] t)(hV:EnvT p B V)(hN:NdV V)(hB:Bn c m s):zHE p ev e V s:=by
 by_cases hf:(ev a V s).2.fail=0
 ·have hr:=h.ok a V s (.of ha hV hN) hB;have hB1:=(h.bd a V s hB).bn;obtain⟨hty,hz⟩:=h.snd a B V s _ ha hV hf;have hty:=hty.def_inv hd;have hfv:=hV.ids hfr;have hx:jI ev e V s=ev (e.kids.getD (1+(ev a V s).1.n).toNat .zero) (V++[⟨e.id,(ev a V s).1.n,(ev a V s).1.kids.headD vz⟩]) (ev a V s).2:=by unfold jI;rw[hks];simp[hf,hk]
  unfold zHE;rw[hx];clear hx;generalize ev a V s=r at *
  obtain⟨v,s1⟩:=r;simp only at *
  obtain⟨_,q,x,hm,rfl,hxt⟩:=hty.resolve_left (fun h=>by omega);have hmk:q<ks.length:=by omega
  have e2:(1+(q:Int)).toNat=q+1:=by omega
  have hw1:IntKind.i64.wrap (1+(q:Int))=((q+1:Nat):Int):=by rw[IntWalk.i64_in _ (by omega)]; omega
  simp only[zZ,zM,jD9,e2,hks,jC5,jB5,jA2 hmk,jCq];have r1:=zMe ks[q] V e.id q x s1 _ (.of hfv q) (h.ok ks[q] (V++[⟨e.id,q,x⟩]) s1 (.of (hw q hmk) (hV.push ⟨hxt,zCA hz (by simp[zM])⟩) (hN.push (.of hfv q))) hB1);generalize ev ks[q] (V++[⟨e.id,q,x⟩]) s1=r' at *
  have hdr:(qL (a::ks)).drop ((q+1)*15)=zF ks[q]++qL (ks.drop (q+1)):=by
   have:=yJ (l:=a::ks) (i:=q+1) (by simpa using hmk)
   simpa using this
  have hlt:q+1<(a::ks).length:=by simpa using hmk
  refine zI Tryz.func144 rfl zTu (rs:=[.cell 6 3 true]) (by kernel_rfl) ?_;unfold zQC;have hP:=eP p;have h0:=zH a ks;generalize hQ:a::ks=Q at *
  obtain⟨M,hM⟩:∃M,M=q+1:=⟨_,rfl⟩;rw[←hM]at hw1 hdr hlt;have hQ0:0<Q.length:=by omega
  have hq0:0<Q.length*15:=by omega
  have hq15:15≤Q.length*15:=by omega
  have ht:(qL Q).take 15=zF a:=by rw[h0]; exact List.take_left' rfl
  have ea:zF a=[int a.id.a,int a.id.b,int a.id.c,int a.k,int a.n,int a.ref.a,int a.ref.b,int a.ref.c,int a.typ.k,int a.typ.id.a,int a.typ.id.b,int a.typ.id.c,.sl a.typ.kids.length (jH a.typ.kids),.sl a.kids.length (qL a.kids),.sl a.names.length (yK a.names)]:=rfl;rw[ea]at ht;clear h0;simp[tE,tS,hP,zF,hks,hQ0,hq0,hq15,ht,hk];refine zN hr [0,1,2,3,4,5,6] (by decide) (by simp[tE,tS,hP]) (by simp[zF]) ?_;simp[tE,tS,hP,zJ,hf,qG,zZ,zM,hw1,hlt,hdr,zF];refine zA8 r1 [0,1,2,3,4,5,6] (by decide) (by simp[tE,tS,hP,hf]) (by simp[zF,zJ]) ?_;simp[tE,tS,hP,zJ];exact zG [0,1,2,3,4,5,6] 0 (by decide) (by simp) (by simp) (by simp[zJ])
 ·exact zDh h hks (.of ha hV hN) hB hf
theorem zOH (h:Ih p c m ev){l z b:Exp}{u t:Typ}(hk:e.k=12)(hks:e.kids=[l,z,b])(hfr:∀x∈B,x.id≠e.id)(hl:WE p B l (jV u))(hz:WE p B z t)(hb:WE p (B++[⟨e.id,0,u⟩]++[⟨e.id,1,t⟩]) b t)(hV:EnvT p B V)(hN:NdV V)(hB:Bn c m s):zHE p ev e V s:=by
 by_cases hf:(ev l V s).2.fail=0
 ·have hr:=h.ok l V s (.of hl hV hN) hB;have hB1:=(h.bd l V s hB).bn;obtain⟨hty,hsz⟩:=h.snd l B V s _ hl hV hf;have hfv:=hV.ids hfr;have hx:jI ev e V s=jY ev V e.id b (ev l V s).1.kids (ev z V (ev l V s).2):=by unfold jI;rw[hks];simp[hf,hk]
  unfold zHE;rw[hx];clear hx;generalize ev l V s=r at *
  obtain⟨v,s1⟩:=r;simp only at *
  obtain⟨vs,rfl,hvs⟩:=hty.list_inv;have hr2:=h.ok z V s1 (.of hz hV hN) hB1;have hB2:=h.bd z V s1 hB1;have ht2:=h.snd z B V s1 _ hz hV;generalize ev z V s1=r2 at *
  simp only[zM];have hst:∀i,Bd c m (jY ev V e.id b (vs.take i) r2).2∧((jY ev V e.id b (vs.take i) r2).2.fail=0→TyV p t (jY ev V e.id b (vs.take i) r2).1∧qI (jY ev V e.id b (vs.take i) r2).1≤256):=fun i =>
   ⟨zLe h.bd V e.id b _ _ hB2,zId h.stop h.snd hV hb _ _ (fun x hx=>⟨hvs x (jBa hx),zCA hsz (jBa hx)⟩) ht2⟩
  have hround:∀(i:Nat) (hi:i<vs.length),TOk p (jY ev V e.id b (vs.take (i+1)) r2) b (V++[⟨e.id,0,vs[i]⟩]++[⟨e.id,1,(jY ev V e.id b (vs.take i) r2).1⟩]) (jY ev V e.id b (vs.take i) r2).2:=fun i hi=>by rw[jA9 hi,zFa];refine h.ok _ _ _ (fun h0=>⟨_,t,hb,(hV.push ⟨hvs _ (jA0 hi),zCA hsz (jA0 hi)⟩).push ((hst i).2 h0),(hN.push (.of hfv 0)).push (.push hfv (by decide) _)⟩) (hst i).1.bn
  have htk:vs.take vs.length=vs:=jAp;have hF0:jY ev V e.id b [] r2=r2:=rfl;refine zI Tryz.func144 rfl zTu (rs:=[.cell 6 3 true]) (by kernel_rfl) ?_;unfold zQC;have hP:=eP p;simp[tE,tS,hP,zF,hks,zH,hk];refine zN hr [0,1,2,3,4,5,6] (by decide) (by simp[tE,tS,hP]) (by simp[zF]) ?_;simp[tE,tS,hP,zJ,hf,qG,zZ,zM];refine zN hr2 [0,1,2,3,4,5,6] (by decide) (by simp[tE,tS,hP,hf]) (by simp[zF]) ?_;simp[tE,tS,hP,zJ,zM];intro hvl;refine qW (S:=Nat) (fun i=>[(0,.ptr 0 0),(2,.map 6),(4,.ptr 7 0),(6,.ptr 8 0),(8,.ptr 9 0),(97,.sl vs.length (zV vs)),(98,int vs.length),(99,int i)])
   (fun i=>tE p (jY ev V e.id b (vs.take i) r2).2 V++[.box (zF e),.box [int 0,int 0,.nil],.box (zJ (jY ev V e.id b (vs.take i) r2).1)]) (fun i=>i≤vs.length) (fun i=>vs.length-i) 0 (by simp)
   (zR [0,1,2,3,4,5,6,7,8,10] 0 (by decide) (by simp) (by simp[tE,tS,hP,zF,hks,zH,hk,zJ,hF0]) (by simp)) ?_
  intro i hi;by_cases hil:i<vs.length
  ·have hro:=hround i hil;have hdr:=jN hil;generalize hFn:jY ev V e.id b (vs.take (i+1)) r2=Fn at hro;generalize hFi:jY ev V e.id b (vs.take i) r2=Fi at hro;obtain⟨acc,si⟩:=Fi;simp only at hro;generalize vs[i]=x at *
   have p1:=zKw (i:=e.id) (n:=0) (V:=V) (v:=x) (.of hfv 0);have d1:=zNT (i:=e.id) (n:=0) (V:=V) (v:=x) (.of hfv 0);have wo:=zMe b (V++[⟨e.id,0,x⟩]) e.id 1 acc si Fn (.push hfv (by decide) x) hro;simp[tE,tS,hP,zF,hks,zH,hk,zJ,hil,hdr,p1,hFi];refine zA8 wo [0,1,2,3,4,5,6] (by decide) (by simp[tE,tS,hP]) (by simp[zF,zJ]) ?_;simp[tE,tS,hP,zJ,d1];exact zU (i+1) hil (by omega) (zR [0,1,2,3,4,5,6,7,8,9] 0 (by decide) (by simp) (by simp[tE,tS,hP,zF,hks,zH,hk,zJ,hFn]) (by simp[qA hil hvl]))
  ·have hil:i=vs.length:=by omega
   subst hil;rw[htk];simp[tE,tS,hP,zJ];exact zG [0,1,2,3,4,5,6] 0 (by decide) (by simp) (by simp) (by simp[zJ])
 ·exact zDh h hks (.of hl hV hN) hB hf
end
section
variable {p:Prg}{c:Nat}{m:Int}{ev:Evl}{e:Exp}{V:List EVar}{s:XS}
def qHE:K:=G [kO 4 1,kZ 6 [ki,ki,kl]] (Z (G [M 10 0,kU 11 10,D 12 11 3,L 13 12 1,kQi 14 13 0 true] (Y 14 (G [kb 15 [ki,ki,kl] [],S 6 15 3] kr) ks)) (Z (K.dops [(0,0,M 16 0),(1,0,kU 17 16),(2,0,D 18 17 4),(3,0,L 19 18 1),(4,0,D 20 4 0),(5,0,J 21 20 3),(6,4,⟨none,.call (some 22) (kt 19) [(.const (.bool true)),(kt 21)]⟩)]) (G [⟨none,.mop (some 23) (.mk 4) []⟩,M 7 23] (Z (G [D 24 4 8,L 25 24 1,kN 26 25,kMi 27 0] (K.block 0 (K.loop (G [kB 28 27 26 .lss] (Z (Y 28 ks (K.exit 0)) (Z (K.block 1 (G [M 29 27,kX 30 25 27 11,J 31 30 11,kZ 9 kz5,M 8 29,S 9 31 11] (K.dops [(0,0,M 32 7),(1,0,D 33 9 0),(2,0,J 34 33 3),(3,0,kb 35 zGW [(0,3,(kt 34)),(3,1,(kc 0))]),(4,0,M 36 2),(5,0,M 37 8),(6,0,kX 38 36 37 3),(7,0,J 39 38 3),(8,0,⟨none,.mop none (.set 4) [(kt 32),(kt 35),(kt 39)]⟩)]))) (K.ops [kBi 40 27 1 .add,M 27 40]))))))) (G [M 41 0,D 42 4 14,J 43 42 15,M 44 7,kC 45 93 [(kt 41),(kt 43),(kt 44)],S 6 45 3] kr)))))
def qQJ:Nat→Option (List (Nat×Nat)):=fun r=>match r with | 3=>some [(0,0),(1,0),(2,0),(3,0),(4,0),(5,0),(6,4)] | _=>none
theorem qOA:qD prog Tryz.f47.ntmps qQJ (Tryz.f47.body.getD .skip)=some qHE.erase:=by kernel_rfl
@[simp] theorem qPR:zA prog 47=true:=by kernel_rfl
theorem zSp (h:Ih p c m ev)(hc:c≤100000)(d:Dfn)(vs:List Val)(hl:s.fail=0→vs.length=d.slots.length)(hnd:d.slots.Pairwise fun a b=>a.id≠b.id)(hd6:d.slots.length≤6)
 (hA:s.fail=0→Adm p d.body (zCa d.slots vs) {s with ds:=s.ds++[d.id]})(hB:Bd c m s) :
 Ret prog 47 [.ptr 0 0,.agg (zO d),.sl vs.length (zV vs)] (tS p s) (.agg (zJ (zAX ev d vs s).1)) (tS p (zAX ev d vs s).2):=by
 have hP:=eP p;refine zI Tryz.func47 rfl qOA (rs:=[.cell 6 3 true]) (by kernel_rfl) ?_;unfold qHE;by_cases hf:s.fail=0
 ·have hx:zAX ev d vs s=ev d.body (zCa d.slots vs) {s with ds:=s.ds++[d.id]}:=by unfold zAX; rw[if_neg (by simp[hf])]
  rw[hx];have hl:=hl hf;have hb1:=hB.ds;have hb2:=hB.ns;have hb3:=zNS s.ns;have hn:=zOn true d.id s.ds (ddL s.ns) (by omega) (by omega);have he:=h.ok _ _ _ (hA hf) (hB.def d.id hf);generalize ev d.body (zCa d.slots vs) {s with ds:=s.ds++[d.id]}=r at *
  have hel:=zFT d.slots vs hl;have hfr:∀(i:Nat) (hi:i<d.slots.length),Fr ((zCa d.slots vs).take i) d.slots[i].id 0:=fun i hi b hb e=>by
   obtain⟨j,hj,rfl⟩:=jAh hb;rw[jAt]at hj;have hj1:j<d.slots.length:=by omega
   have hij:j<i:=by omega
   have:=jCd.1 hnd j i hj1 hi hij;have e1:((zCa d.slots vs).take i)[j].id=d.slots[j].id:=by simp[zCa]
   exact this (e1.symm.trans e.1)
  have h0:zDY []=[]:=rfl;have hall:(zCa d.slots vs).take d.slots.length=zCa d.slots vs:=by rw[←hel]; exact jAp
  simp[tS,hP,zO,hf];refine zA8 hn [1,2,3,4,5] (by decide) (by simp[nS]) (by simp[jF]) ?_;simp[nS];intro hls;refine qW (S:=Nat) (fun i=>[(0,.ptr 0 0),(2,.sl vs.length (zV vs)),(4,.ptr 6 0),(6,.ptr 7 0),(7,.map 8),(25,.sl d.slots.length (yE d.slots)),(26,int d.slots.length),(27,int i)])
   (fun i=>tS p {s with ds:=s.ds++[d.id]}++[.box (zO d),.box [int 0,int 0,.nil],.mp false 4 (zDY ((zCa d.slots vs).take i))]) (fun i=>i≤d.slots.length) (fun i=>d.slots.length-i) 0 (by simp)
   ((qAm (l:=8) rfl).trans (zR [0,1,2,3,4,5,6,7,8] 0 (by decide) (by simp) (by simp[tS,hP,zO,hf,h0,jS,qE]) (by simp))) ?_
  intro i hi;by_cases hil:i<d.slots.length
  ·have hiv:i<vs.length:=by omega
   have hdr:=jU hil;have hdv:=jN hiv;have hp:=zKw (v:=vs[i]) (hfr i hil);have htk:=zIO hl hil;simp[tS,hP,zO,hil,hiv,hdr,hdv,zAu,zP9,zIg,zHf,hp];exact zU (i+1) hil (by omega) (zR [0,1,2,3,4,5,6,7,8] 0 (by decide) (by simp) (by simp[tS,hP,zO,htk]) (by simp[qA hil hls]))
  ·have hil:i=d.slots.length:=by omega
   subst hil;rw[hall];simp[tS,hP,zO];refine zN he [0,1,2,3,4,5,8] (by decide) (by simp[tE,tS,hP]) (by simp[zF]) ?_;simp[tE,tS,hP,zJ];exact zG [0,1,2,3,4,5] 0 (by decide) (by simp) (by simp) (by simp[zJ])
 ·have hx:zAX ev d vs s=(vz,s):=by unfold zAX; rw[if_pos hf]
  rw[hx];simp[tS,hP,zO,hf];exact zG [0,1,2,3,4,5] 0 (by decide) (by simp) (by simp) (by simp[zJ,qG,zZ,zM])
def zJ2:K:=(Z (G [M 58 0,kU 59 58,D 60 59 3,L 61 60 1,kQi 62 61 0 true] (Y 62 (G [kb 63 [ki,ki,kl] [],S 6 63 3] kr) ks)) (Z (G [D 64 4 3,L 65 64 1] (K.block 3 (G [kQi 67 65 3 false,M 66 67] (Y 66 (Z (K.dops [(0,0,M 69 0),(1,0,kU 70 69),(2,1,D 71 70 0),(3,1,J 72 71 2),(4,1,D 73 4 5),(5,1,J 74 73 3),(6,1,kC 75 42 [(kt 72),(kt 74)]),(7,0,M 68 75),(8,0,kE 76 68 0),(9,0,kE 77 68 1),(10,0,kZ 10 kz0),(11,0,S 10 76 31),(12,0,M 11 77)]) (G [M 78 0,J 79 10 31,M 80 7,kC 81 47 [(kt 78),(kt 79),(kt 80)],S 6 81 3] kr)) (G [kQi 83 65 4 false,M 82 83] (Y 82 (G [D 84 4 4,L 85 84 1,M 86 7,kC 87 145 [(kt 85),(kt 86)],S 6 87 3] kr) (G [kQi 89 65 7 false,M 88 89] (Y 88 (G [M 90 7,kb 91 [ki,ki,kl] [(0,1,(kc 2)),(2,1,(kt 90))],S 6 91 3] kr) (G [kQi 93 65 9 false,M 92 93] (Y 92 (G [D 94 4 4,L 95 94 1,M 96 7,kb 97 [ki,ki,kl] [(0,1,(kc 3)),(1,1,(kt 95)),(2,1,(kt 96))],S 6 97 3] kr) ks)))))))))) (G [M 98 7,kb 99 [ki,ki,kl] [(0,1,(kc 4)),(2,1,(kt 98))],S 6 99 3] kr)))
def zTk:K:=G [kO 4 1,kZ 6 [ki,ki,kl]] (Z (G [D 12 4 3,L 13 12 1] (K.block 0 (G [kQi 15 13 0 false,M 14 15] (Y 14 (G [D 16 4 4,L 17 16 1,kb 18 [ki,ki,kl] [(0,1,(kc 0)),(1,1,(kt 17))],S 6 18 3] kr) (G [kQi 20 13 1 false,M 19 20] (Y 19 (G [D 21 4 4,L 22 21 1,kb 23 [ki,ki,kl] [(0,1,(kc 1)),(1,1,(kt 22))],S 6 23 3] kr) (G [kQi 25 13 2 false,M 24 25] (Y 24 (G [M 26 2,D 27 4 5,J 28 27 3,D 29 4 4,L 30 29 1,kb 31 zGW [(0,3,(kt 28)),(3,1,(kt 30))],⟨none,.mop (some 32) (.get 4 (.agg #[ki,ki,kl]) false) [(kt 26),(kt 31)]⟩,S 6 32 3] kr) (Z (G [kQi 34 13 5 false,M 33 34] (Y 33 ks (G [kQi 35 13 6 false,M 33 35] (Y 33 ks (G [kQi 36 13 8 false,M 33 36] (Y 33 ks (G [kQi 37 13 10 false,M 33 37] (Y 33 ks (K.ops [kQi 38 13 12 false,M 33 38]))))))))) (Y 33 (G [M 39 0,J 40 4 15,M 41 2,kC 42 144 [(kt 39),(kt 40),(kt 41)],S 6 42 3] kr) ks)))))))))) (G [kMn 7] (Z (G [D 43 4 13,L 44 43 1,kN 45 44,kMi 46 0] (K.block 1 (K.loop (G [kB 47 46 45 .lss] (Z (Y 47 ks (K.exit 1)) (Z (K.block 2 (G [kX 48 44 46 15,J 49 48 15,kZ 9 kz1,S 9 49 15] (K.ops [M 50 7,M 51 0,J 52 9 15,M 53 2,kC 54 93 [(kt 51),(kt 52),(kt 53)],kd 55 47 3 1 [ki,ki,kl] [(0,3,(kt 54))],kP 56 47 3 40 50 55,M 7 56]))) (K.ops [kBi 57 46 1 .add,M 46 57]))))))) (K.wk zJ2))))
theorem zV8:zL prog Tryz.f129.ntmps (Tryz.f129.body.getD .skip)=some zTk.erase:=by kernel_rfl
@[simp] theorem qPX:zA prog 129=true:=by kernel_rfl
abbrev zQE (p:Prg)(e:Exp)(V:List EVar)(s:XS)(r:Val×XS):Prop:=Ret prog 129 [.ptr 0 0,.agg (zF e),.map 6] (tE p s V) (.agg (zJ r.1)) (tE p r.2 V)
abbrev zCI (p:Prg)(e:Exp)(V:List EVar)(s:XS)(vs:List Val)(r:Val×XS):Prop :=
 wpK prog 7 zJ2 (fin [RS.cell 6 3 true] (zGS 7 (.agg (zJ r.1)) (tE p r.2 V))) (qT [(0,.ptr 0 0),(2,.map 6),(4,.ptr 7 0),(6,.ptr 8 0),(7,.sl vs.length (zV vs))]) (tE p s V++[.box (zF e),.box [int 0,int 0,.nil]])
theorem zDV (h:Ih p c m ev){r:Val×XS}(hk:e.k=3∨e.k=4∨e.k=7∨e.k=9∨e.k=11)(hk6:e.kids.length≤32768)(hA:∀k∈e.kids,∀s,Adm p k V s)(hB:Bd c m s)
 (hr:zCI p e V (qP ev V e.kids s).2 (qP ev V e.kids s).1 r):zQE p e V s r:=by
 have hP:=eP p;refine zI Tryz.func129 rfl zV8 (rs:=[.cell 6 3 true]) (by kernel_rfl) ?_;unfold zTk;have n0:¬e.k=0:=by omega
 have n1:¬e.k=1:=by omega
 have n2:¬e.k=2:=by omega
 have n5:¬e.k=5:=by omega
 have n6:¬e.k=6:=by omega
 have n8:¬e.k=8:=by omega
 have n10:¬e.k=10:=by omega
 have n12:¬e.k=12:=by omega
 have hst:∀i,Bd c m (qP ev V (e.kids.take i) s).2:=fun i=>zKl h.bd V _ _ hB
 have hln:∀i,i≤e.kids.length→(qP ev V (e.kids.take i) s).1.length=i:=fun i hi=>by rw[zCh,jAt]; omega
 have h00:qP ev V [] s=([],s):=rfl;simp[tE,tS,hP,zF,n0,n1,n2,n5,n6,n8,n10,n12];intro hl;refine qW (S:=Nat) (fun i=>[(0,.ptr 0 0),(2,.map 6),(4,.ptr 7 0),(6,.ptr 8 0),(7,.row 9 i),(44,.sl e.kids.length (qL e.kids)),(45,int e.kids.length),(46,int i)])
  (fun i=>tE p (qP ev V (e.kids.take i) s).2 V++[.box (zF e),.box [int 0,int 0,.nil],.row false 47 3 i (zV (qP ev V (e.kids.take i) s).1)]) (fun i=>i≤e.kids.length) (fun i=>e.kids.length-i) 0 (by simp)
  ((yG (t:=7) (by simp) 47 3).trans (zR [0,1,2,3,4,5,6,7,8,9] 0 (by decide) (by simp) (by simp[tE,tS,hP,zF,h00]) (by simp))) ?_
 intro i hi;by_cases hil:i<e.kids.length
 ·have hr:=h.ok e.kids[i] V (qP ev V (e.kids.take i) s).2 (hA _ (jA0 hil) _) (hst i).bn;have hsn:=zGz ev V e.kids[i] (e.kids.take i) s;rw[←jA9 hil]at hsn;have hdr:=yJ hil;have hln:=hln i hi;generalize hFn:qP ev V (e.kids.take (i+1)) s=Fn at hsn;subst hsn;generalize hFi:qP ev V (e.kids.take i) s=Fi at *
  obtain⟨vs,si⟩:=Fi;simp only at *
  generalize ev e.kids[i] V si=rk at *
  obtain⟨v,sk⟩:=rk;simp only at *
  simp[tE,tS,hP,hil,hdr,hFi,zF];refine zN hr [0,1,2,3,4,5,6] (by decide) (by simp[tE,tS,hP]) (by simp[zF]) ?_;simp[tE,tS,hP,zJ];refine⟨⟨by simp[maxLen]; omega,by omega⟩,?_⟩;exact zU (i+1) hil (by omega) (zR [0,1,2,3,4,5,6,7,8,9] 0 (by decide) (by simp) (by simp[tE,tS,hP,zF,hFn,zBe]) (by simp[qA hil hl]))
 ·have hil:i=e.kids.length:=by omega
  subst hil;have htk:e.kids.take e.kids.length=e.kids:=jAp;have hln:=hln _ (jA _);rw[htk]at hln ⊢;generalize qP ev V e.kids s=F at *
  obtain⟨vs,si⟩:=F;simp only at *
  simp;exact⟨_,_,zR [0,1,2,3,4,5,6,7,8] 1 (by decide) (by simp) (by simp[tE,tS,hP,zF]) (by simp[tE,tS,hln]),hr⟩
theorem zEF {vs:List Val}(hf:s.fail≠0):zCI p e V s vs (vz,s):=by have hP:=eP p;unfold zCI zJ2;simp[tE,tS,hP,zF,hf];exact zG [0,1,2,3,4,5,6] 0 (by decide) (by simp) (by simp) (by simp[zJ,qG,zZ,zM])
theorem zX0 {vs:List Val}(hf:s.fail=0)(hk:e.k=7):zCI p e V s vs (.mk 2 0 vs,s):=by have hP:=eP p;unfold zCI zJ2;simp[tE,tS,hP,zF,hf,hk];exact zG [0,1,2,3,4,5,6] 0 (by decide) (by simp) (by simp[hf]) (by simp[zJ,qG,zZ,zM])
theorem zUx {vs:List Val}(hf:s.fail=0)(hk:e.k=9):zCI p e V s vs (.mk 3 e.n vs,s):=by have hP:=eP p;unfold zCI zJ2;simp[tE,tS,hP,zF,hf,hk];exact zG [0,1,2,3,4,5,6] 0 (by decide) (by simp) (by simp[hf]) (by simp[zJ,qG,zZ,zM])
theorem zUy {vs:List Val}(hf:s.fail=0)(hk:e.k=11):zCI p e V s vs (.mk 4 0 vs,s):=by have hP:=eP p;unfold zCI zJ2;simp[tE,tS,hP,zF,hf,hk];exact zG [0,1,2,3,4,5,6] 0 (by decide) (by simp) (by simp[hf]) (by simp[zJ,qG,zZ,zM])
theorem zZY {ts:List Typ}{t:Typ}{vs:List Val}(hf:s.fail=0)(hk:e.k=4)(ho:OpT e.n ts t)(hv:TyL p ts vs)(hs:∀v∈vs,qI v≤256):zCI p e V s vs (opV e.n vs,s):=by have hP:=eP p;unfold zCI zJ2;simp[tE,tS,hP,zF,hf,hk];refine zT (zWz ho hv hs) (by simp) (by simp[zJ]) ?_;simp[zJ];exact zG [0,1,2,3,4,5,6] 0 (by decide) (by simp) (by simp[hf]) (by simp[zJ])
theorem zUw {d:Dfn}{vs:List Val}{r:Val×XS}(hf:s.fail=0)(hk:e.k=3)(hd:jO p.defs e.ref=some d)
 (hb:Ret prog 47 [.ptr 0 0,.agg (zO d),.sl vs.length (zV vs)] (tS p s) (.agg (zJ r.1)) (tS p r.2)):zCI p e V s vs r:=by
 have hP:=eP p;unfold zCI zJ2;simp[tE,tS,hP,zF,hf,hk];refine zAw (zEU p e.ref) (by simp[zS,jF]) (by simp[zBf]) ?_;simp[zBf,hd,zO];refine zN hb [0,1,2,3,4,5] (by decide) (by simp[tS,hP,hf]) (by simp[zO]) ?_;simp[tS,hP,zJ];exact zG [0,1,2,3,4,5,6] 0 (by decide) (by simp) (by simp) (by simp[zJ])
end
abbrev zPb (x:Int):Value:=.iface 51 (.int .i64 x)
def eS (p:Prg)(F:Int)(s:XS):St:=[.box (zS p++[int F,int (F-s.fuel)])]
structure RP (f:FuncId)(args:List A)(p:Prg)(F:Int)(s:XS)(r:A)(s':XS):Prop where
 ret:s'.fail=0→Ret prog f args (eS p F s) r (eS p F s')
 pan:s'.fail≠0→Pan prog f args (eS p F s) (zPb s'.fail)
abbrev zMr (p:Prg)(F:Int)(e:Exp)(V:List EVar)(s:XS)(r:Val×XS):Prop:=RP 115 [.ptr 0 0,.agg (zF e),scE V] p F s (.agg (zJ r.1)) r.2
structure IhE (p:Prg)(F m:Int)(ev:Evl):Prop where
 stop:zHG ev
 snd:Snd p ev
 fu:∀e V s,Fu m s→Fu m (ev e V s).2
 ok:∀e V s,s.fail=0→Adm p e V s→Fu m s→zMr p F e V s (ev e V s)
@[simp] theorem qMp:zA prog 115=true:=by kernel_rfl
@[simp] theorem qMq:zA prog 140=true:=by kernel_rfl
@[simp] theorem qMn:zA prog 165=true:=by kernel_rfl
section
variable {p:Prg}{F m:Int}{ev:Evl}{e:Exp}{V:List EVar}{s:XS}
def qCm:K:=G [kMn 6] (G [kMn 7] (Z (G [M 10 1,kN 11 10,kMi 12 0] (K.block 0 (K.loop (G [kB 13 12 11 .lss] (Z (Y 13 ks (K.exit 0)) (Z (K.block 1 (G [kX 14 10 12 15,J 15 14 15,kZ 9 kz1,S 9 15 15] (K.ops [M 16 7,M 17 0,J 18 9 15,M 19 2,kC 20 115 [(kt 17),(kt 18),(kt 19)],kd 21 47 3 1 [ki,ki,kl] [(0,3,(kt 20))],kP 22 47 3 40 16 21,M 7 22]))) (K.ops [kBi 23 12 1 .add,M 12 23]))))))) (G [M 24 7,M 6 24] kr)))
theorem qIy:zL prog Tryz.f164.ntmps (Tryz.f164.body.getD .skip)=some qCm.erase:=by kernel_rfl
@[simp] theorem qOT:zA prog 164=true:=by kernel_rfl
theorem zHT (h:IhE p F m ev)(V:List EVar)(l:List Exp)(hl6:l.length≤32768)(hs:s.fail=0)(hA:∀k∈l,∀s,Adm p k V s)(hB:Fu m s) :
 RP 164 [.ptr 0 0,.sl l.length (qL l),scE V] p F s (.sl l.length (zV (qP ev V l s).1)) (qP ev V l s).2:=by
 have hP:=eP p;have hst:∀i,Fu m (qP ev V (l.take i) s).2:=fun i=>zFI h.fu V _ _ hB
 have hln:∀i,i≤l.length→(qP ev V (l.take i) s).1.length=i:=fun i hi=>by rw[zCh,jAt]; omega
 have h00:qP ev V [] s=([],s):=rfl;have htk:l.take l.length=l:=jAp;constructor
 ·intro hf;have hpre:∀i,i≤l.length→(qP ev V (l.take i) s).2.fail=0:=fun i hi=>zK3 h.stop V l s i l.length hi (by rw[htk]; exact hf)
  refine zK Tryz.func164 rfl qIy (rs:=[.slot 6]) (by kernel_rfl) ?_;unfold qCm;simp[eS,hP];intro hl;refine qW (S:=Nat) (fun i=>[(0,.ptr 0 0),(2,scE V),(7,.row 1 i),(10,.sl l.length (qL l)),(11,int l.length),(12,int i)])
   (fun i=>eS p F (qP ev V (l.take i) s).2++[.row false 47 3 i (zV (qP ev V (l.take i) s).1)]) (fun i=>i≤l.length) (fun i=>l.length-i) 0 (by simp)
   ((yG (t:=7) (by simp) 47 3).trans (zR [0,1] 0 (by decide) (by simp) (by simp[eS,hP,h00]) (by simp))) ?_
  intro i hi;by_cases hil:i<l.length
  ·have hsn:=zGz ev V l[i] (l.take i) s;rw[←jA9 hil]at hsn;have hp1:=hpre (i+1) hil;rw[hsn]at hp1;have hr:=(h.ok l[i] V (qP ev V (l.take i) s).2 (hpre i hi) (hA _ (jA0 hil) _) (hst i)).ret hp1;have hdr:=yJ hil;have hln:=hln i hi;generalize hFn:qP ev V (l.take (i+1)) s=Fn at hsn;subst hsn;generalize hFi:qP ev V (l.take i) s=Fi at *
   obtain⟨vs,si⟩:=Fi;simp only at *
   generalize ev l[i] V si=rk at *
   obtain⟨v,sk⟩:=rk;simp only at *
   simp[eS,hP,hil,hdr,hFi,zF];refine zN hr [0] (by decide) (by simp[eS,hP]) (by simp[zF]) ?_;simp[eS,hP,zJ];refine⟨⟨by simp[maxLen]; omega,by omega⟩,?_⟩;exact zU (i+1) hil (by omega) (zR [0,1] 0 (by decide) (by simp) (by simp[eS,hP,hFn,zBe]) (by simp[qA hil hl]))
  ·have hil:i=l.length:=by omega
   subst hil;rw[htk];generalize qP ev V l s=Fi at *
   obtain⟨vs,si⟩:=Fi;simp;exact zG [0] 1 (by decide) (by simp) (by simp[eS,hP]) (by simp[eS,hP])
 ·intro hf;obtain⟨k,hk,hk0,hk1⟩:=zK2 h.stop V l s hs hf;have hpre:∀i,i≤k→(qP ev V (l.take i) s).2.fail=0:=fun i hi=>zK3 h.stop V l s i k hi hk0
  rw[←hk1]at hf ⊢;refine zED Tryz.func164 rfl qIy (rs:=[.slot 6]) (by kernel_rfl) ?_;unfold qCm wpF;simp[eS,hP];intro hl;refine qW (S:=Nat) (fun i=>[(0,.ptr 0 0),(2,scE V),(7,.row 1 i),(10,.sl l.length (qL l)),(11,int l.length),(12,int i)])
   (fun i=>eS p F (qP ev V (l.take i) s).2++[.row false 47 3 i (zV (qP ev V (l.take i) s).1)]) (fun i=>i≤k) (fun i=>l.length-i) 0 (by simp)
   ((yG (t:=7) (by simp) 47 3).trans (zR [0,1] 0 (by decide) (by simp) (by simp[eS,hP,h00]) (by simp))) ?_
  intro i hi;have hil:i<l.length:=by omega
  have hdr:=yJ hil;have hok:=h.ok l[i] V (qP ev V (l.take i) s).2 (hpre i hi) (hA _ (jA0 hil) _) (hst i);by_cases hik:i<k
  ·have hsn:=zGz ev V l[i] (l.take i) s;rw[←jA9 hil]at hsn;have hp1:=hpre (i+1) hik;rw[hsn]at hp1;have hr:=hok.ret hp1;have hln:=hln i (by omega);generalize hFn:qP ev V (l.take (i+1)) s=Fn at hsn;subst hsn;generalize hFi:qP ev V (l.take i) s=Fi at *
   obtain⟨vs,si⟩:=Fi;simp only at *
   generalize ev l[i] V si=rk at *
   obtain⟨v,sk⟩:=rk;simp only at *
   simp[eS,hP,hil,hdr,hFi,zF];refine zN hr [0] (by decide) (by simp[eS,hP]) (by simp[zF]) ?_;simp[eS,hP,zJ];refine⟨⟨by simp[maxLen]; omega,by omega⟩,?_⟩;exact zU (i+1) hik (by omega) (zR [0,1] 0 (by decide) (by simp) (by simp[eS,hP,hFn,zBe]) (by simp[qA hil hl]))
  ·have hik:i=k:=by omega
   subst hik;have hr:=hok.pan hf;generalize hFi:qP ev V (l.take i) s=Fi at *
   obtain⟨vs,si⟩:=Fi;simp only at *
   simp[eS,hP,hil,hdr,hFi,zF];refine zHN hr [0] (by decide) (by simp[eS,hP]) (by simp[zF]) fun τ=>?_
   simp
def qCn:K:=G [kO 4 1,kZ 6 [ki,ki,kl]] (G [⟨none,.mov (some 7) (.const (.pointer none))⟩] (Z (G [D 10 4 8,L 11 10 1,kN 12 11,kMi 13 0] (K.block 0 (K.loop (G [kB 14 13 12 .lss] (Z (Y 14 ks (K.exit 0)) (Z (K.block 1 (G [M 15 13,kX 16 11 13 11,J 17 16 11,kZ 9 kz5,M 8 15,S 9 17 11] (K.dops [(0,0,M 18 7),(1,0,D 19 9 0),(2,0,J 20 19 3),(3,0,M 21 2),(4,0,M 22 8),(5,0,kX 23 21 22 3),(6,0,J 24 23 3),(7,0,kC 25 114 [(kt 18),(kt 20),(kc 0),(kt 24)]),(8,0,M 7 25)]))) (K.ops [kBi 26 13 1 .add,M 13 26]))))))) (G [M 27 0,D 28 4 14,J 29 28 15,M 30 7,kC 31 115 [(kt 27),(kt 29),(kt 30)],S 6 31 3] kr)))
theorem qIz:zL prog Tryz.f68.ntmps (Tryz.f68.body.getD .skip)=some qCn.erase:=by kernel_rfl
@[simp] theorem qOW:zA prog 68=true:=by kernel_rfl
theorem zOV (h:IhE p F m ev)(d:Dfn)(vs:List Val)(hl:vs.length=d.slots.length)(hd6:d.slots.length≤6)(hs:s.fail=0)(hA:Adm p d.body (zCa d.slots vs) {s with ds:=s.ds++[d.id]})(hB:Fu m s) :
 RP 68 [.ptr 0 0,.agg (zO d),.sl vs.length (zV vs)] p F s (.agg (zJ (zAX ev d vs s).1)) (zAX ev d vs s).2:=by
 have hP:=eP p;have hx:zAX ev d vs s=ev d.body (zCa d.slots vs) {s with ds:=s.ds++[d.id]}:=by unfold zAX; rw[if_neg (by simp[hs])]
 rw[hx];have he:=h.ok _ _ _ (by exact hs) hA ((zLf m).dfn d.id s hB);generalize ev d.body (zCa d.slots vs) {s with ds:=s.ds++[d.id]}=r at *
 have hel:=zFT d.slots vs hl;have hall:(zCa d.slots vs).take d.slots.length=zCa d.slots vs:=by rw[←hel]; exact jAp
 constructor
 ·intro hf;refine zK Tryz.func68 rfl qIz (rs:=[.cell 6 3 true]) (by kernel_rfl) ?_;unfold qCn;simp[eS,hP,zO];intro hls;refine qW (S:=Nat) (fun i=>[(0,.ptr 0 0),(2,.sl vs.length (zV vs)),(4,.ptr 1 0),(6,.ptr 2 0),(7,scE ((zCa d.slots vs).take i)),(11,.sl d.slots.length (yE d.slots)),(12,int d.slots.length),(13,int i)])
   (fun i=>eS p F s++[.box (zO d),.box [int 0,int 0,.nil]]) (fun i=>i≤d.slots.length) (fun i=>d.slots.length-i) 0 (by simp)
   (zR [0,1,2] 0 (by decide) (by simp) (by simp[eS,hP,zO]) (by simp)) ?_
  intro i hi;by_cases hil:i<d.slots.length
  ·have hiv:i<vs.length:=by omega
   have hdr:=jU hil;have hdv:=jN hiv;have htk:=zIO hl hil;have hw:=zC6 ((zCa d.slots vs).take i).reverse ⟨d.slots[i].id,0,vs[i]⟩;simp[eS,hP,hil,hiv,hdr,hdv,zAu];refine qK hw (by simp[jF,zJ]) (by simp) ?_;simp;exact zU (i+1) hil (by omega) (zR [0,1,2] 0 (by decide) (by simp) (by simp[eS,hP,zO]) (by simp[qA hil hls,htk]))
  ·have hil:i=d.slots.length:=by omega
   subst hil;rw[hall];simp[eS,hP,zO];refine zN (he.ret hf) [0] (by decide) (by simp[eS,hP]) (by simp[zF]) ?_;simp[eS,hP,zJ];exact zG [0] 0 (by decide) (by simp) (by simp) (by simp[zJ])
 ·intro hf;refine zED Tryz.func68 rfl qIz (rs:=[.cell 6 3 true]) (by kernel_rfl) ?_;unfold qCn wpF;simp[eS,hP,zO];intro hls;refine qW (S:=Nat) (fun i=>[(0,.ptr 0 0),(2,.sl vs.length (zV vs)),(4,.ptr 1 0),(6,.ptr 2 0),(7,scE ((zCa d.slots vs).take i)),(11,.sl d.slots.length (yE d.slots)),(12,int d.slots.length),(13,int i)])
   (fun i=>eS p F s++[.box (zO d),.box [int 0,int 0,.nil]]) (fun i=>i≤d.slots.length) (fun i=>d.slots.length-i) 0 (by simp)
   (zR [0,1,2] 0 (by decide) (by simp) (by simp[eS,hP,zO]) (by simp)) ?_
  intro i hi;by_cases hil:i<d.slots.length
  ·have hiv:i<vs.length:=by omega
   have hdr:=jU hil;have hdv:=jN hiv;have htk:=zIO hl hil;have hw:=zC6 ((zCa d.slots vs).take i).reverse ⟨d.slots[i].id,0,vs[i]⟩;simp[eS,hP,hil,hiv,hdr,hdv,zAu];refine qK hw (by simp[jF,zJ]) (by simp) ?_;simp;exact zU (i+1) hil (by omega) (zR [0,1,2] 0 (by decide) (by simp) (by simp[eS,hP,zO]) (by simp[qA hil hls,htk]))
  ·have hil:i=d.slots.length:=by omega
   subst hil;rw[hall];simp[eS,hP,zO];refine zHN (he.pan hf) [0] (by decide) (by simp[eS,hP]) (by simp[zF]) fun τ=>?_
   simp
end
section
variable {p:Prg}{c:Nat}{m:Int}{ev:Evl}{e:Exp}{V:List EVar}{s:XS}
theorem zUC (hk:e.k=0):zQE p e V s (.mk 0 e.n [],s):=by have hP:=eP p;refine zI Tryz.func129 rfl zV8 (rs:=[.cell 6 3 true]) (by kernel_rfl) ?_;unfold zTk;simp[tE,tS,hP,zF,hk];exact zG [0,1,2,3,4,5,6] 0 (by decide) (by simp) (by simp) (by simp[zJ,qG,zZ,zM])
theorem zRS (hk:e.k=1):zQE p e V s (.mk 1 e.n [],s):=by have hP:=eP p;refine zI Tryz.func129 rfl zV8 (rs:=[.cell 6 3 true]) (by kernel_rfl) ?_;unfold zTk;simp[tE,tS,hP,zF,hk];exact zG [0,1,2,3,4,5,6] 0 (by decide) (by simp) (by simp) (by simp[zJ,qG,zZ,zM])
theorem zUD {v:Val}(hk:e.k=2)(hf:zAL [e.ref.a,e.ref.b,e.ref.c,e.n] (zDY V)=some (.agg [.lit (.int .i64 v.k),.lit (.int .i64 v.n),.sl v.kids.length (zV v.kids)])):zQE p e V s (v,s):=by have hP:=eP p;refine zI Tryz.func129 rfl zV8 (rs:=[.cell 6 3 true]) (by kernel_rfl) ?_;unfold zTk;simp[tE,tS,hP,zF,hk,hf];exact zG [0,1,2,3,4,5,6] 0 (by decide) (by simp) (by simp) (by simp[zJ])
theorem zGv (hk:e.k=5∨e.k=6∨e.k=8∨e.k=10∨e.k=12)(hb:zHE p ev e V s):zQE p e V s (jI ev e V s):=by have hP:=eP p;unfold zHE at hb;generalize jI ev e V s=r at hb;refine zI Tryz.func129 rfl zV8 (rs:=[.cell 6 3 true]) (by kernel_rfl) ?_;unfold zTk;rcases hk with hk | hk | hk | hk | hk<;>simp[tE,tS,hP,zF,hk]<;>refine zN hb [0,1,2,3,4,5,6] (by decide) (by simp[tE,tS,hP]) (by simp[zF,hk]) ?_<;>simp[tE,tS,hP,zJ]<;>exact zG [0,1,2,3,4,5,6] 0 (by decide) (by simp) (by simp) (by simp[zJ])
def zVv (p:Prg):Prop:=∀d∈p.defs,d.slots.length≤6∧d.slots.Pairwise fun a b=>a.id≠b.id
theorem zKn {ss:List Slt}(hnd:ss.Pairwise fun a b=>a.id≠b.id)(vs:List Val)(hl:vs.length=ss.length):NdV (zCa ss vs):=by
 unfold NdV;rw[jCd];intro i j hi hj hij e;have hi':i<ss.length:=by rw[zFT ss vs hl]at hi; exact hi
 have hj':j<ss.length:=by rw[zFT ss vs hl]at hj; exact hj
 have:=jCd.1 hnd i j hi' hj' hij;have e1:(zCa ss vs)[i].id=ss[i].id:=by simp[zCa]
 have e2:(zCa ss vs)[j].id=ss[j].id:=by simp[zCa]
 exact this (by rw[←e1,←e2]; exact e.1)
theorem zU6 (hp:zQ8 p)(hsl:zVv p)(h:Ih p c m ev)(hc:c≤100000){B:List Bnd}{t:Typ}(he:WE p B e t)(hV:EnvT p B V)(hN:NdV V)(hB:Bd c m s):zQE p e V s (qH p 1 ev e V s):=by
 cases he with
 | int _ i n r u ns h1 h2=>exact zUC rfl
 | bool _ i n r u ns h1=>exact zRS rfl
 | var _ i n r u ns _ hl=>exact zUD (e:=.mk i 2 n r u [] ns) rfl (hV.get hN hl)
 | call _ i n r u ks ns hn d hd hk hl hw =>
  have e1:qH p 1 ev (.mk i 3 n r u ks ns) V s=zAX ev d (qP ev V ks s).1 (qP ev V ks s).2:=by simp[qH,dfn,hd]
  rw[e1];have hB1:=zKl h.bd V ks s hB;have hdm:=(zAt hd).1;refine zDV h (.inl rfl) hn (fun k hk s=>?_) hB ?_
  ·obtain⟨j,hj,rfl⟩:=jAh hk;exact .of (hw j hj) hV hN
  ·simp only[Exp.kids_mk];by_cases hf:(qP ev V ks s).2.fail=0
   ·obtain⟨ht,hz⟩:=zD0 h.stop h.snd hV ks _ s hl hw hf;have hlen:=ht.len;rw[jAa]at hlen;exact zUw hf rfl hd (zSp h hc d _ (fun _=>hlen) (hsl d hdm).2 (hsl d hdm).1 (fun _ _=>⟨_,_,hp r d hd (by simp[zB3,hk]),EnvT.args ht hz,zKn (hsl d hdm).2 _ hlen⟩) hB1)
   ·have e2:zAX ev d (qP ev V ks s).1 (qP ev V ks s).2=(vz,(qP ev V ks s).2):=by unfold zAX; rw[if_pos hf]
    rw[e2];exact zEF hf
 | op _ i n r u ks ns hn ts _ ho hl hw =>
  have e1:qH p 1 ev (.mk i 4 n r u ks ns) V s=(zf true (qP ev V ks s).2 (opV n (qP ev V ks s).1),(qP ev V ks s).2):=by simp[qH]
  rw[e1];refine zDV h (.inr (.inl rfl)) hn (fun k hk s=>?_) hB ?_
  ·obtain⟨j,hj,rfl⟩:=jAh hk;exact .of (hw j hj) hV hN
  ·simp only[Exp.kids_mk];by_cases hf:(qP ev V ks s).2.fail=0
   ·obtain⟨ht,hz⟩:=zD0 h.stop h.snd hV ks _ s hl hw hf;rw[zEN hf];exact zZY (e:=.mk i 4 n r u ks ns) hf rfl ho ht hz
   ·have e2:zf true (qP ev V ks s).2 (opV n (qP ev V ks s).1)=vz:=by simp[zf,hf]
    rw[e2];exact zEF hf
 | record _ i n r u ks ns hn d hd hk hl hw =>
  have e1:qH p 1 ev (.mk i 7 n r u ks ns) V s=(zf true (qP ev V ks s).2 (.mk 2 0 (qP ev V ks s).1),(qP ev V ks s).2):=by simp[qH]
  rw[e1];refine zDV h (.inr (.inr (.inl rfl))) hn (fun k hk s=>?_) hB ?_
  ·obtain⟨j,hj,rfl⟩:=jAh hk;exact .of (hw j hj) hV hN
  ·simp only[Exp.kids_mk];by_cases hf:(qP ev V ks s).2.fail=0
   ·rw[zEN hf]; exact zX0 hf rfl
   ·have e2:∀v,zf true (qP ev V ks s).2 v=vz:=fun v=>by simp[zf,hf]
    rw[e2];exact zEF hf
 | case _ i r u a ns d j hd hk hj ha =>
  have e1:qH p 1 ev (.mk i 9 j r u [a] ns) V s=(zf true (qP ev V [a] s).2 (.mk 3 j (qP ev V [a] s).1),(qP ev V [a] s).2):=by simp[qH]
  rw[e1];refine zDV h (.inr (.inr (.inr (.inl rfl)))) (by simp) (fun k hk s=>?_) hB ?_
  ·simp only[Exp.kids_mk,jAg]at hk;subst hk;exact .of ha hV hN
  ·simp only[Exp.kids_mk];by_cases hf:(qP ev V [a] s).2.fail=0
   ·rw[zEN hf]; exact zUx (e:=.mk i 9 j r u [a] ns) hf rfl
   ·have e2:∀v,zf true (qP ev V [a] s).2 v=vz:=fun v=>by simp[zf,hf]
    rw[e2];exact zEF hf
 | list _ i n r u ks ns t hn hw =>
  have e1:qH p 1 ev (.mk i 11 n r u ks ns) V s=(zf true (qP ev V ks s).2 (.mk 4 0 (qP ev V ks s).1),(qP ev V ks s).2):=by simp[qH]
  rw[e1];refine zDV h (.inr (.inr (.inr (.inr rfl)))) hn (fun k hk s=>?_) hB ?_
  ·obtain⟨j,hj,rfl⟩:=jAh hk;exact .of (hw j hj) hV hN
  ·simp only[Exp.kids_mk];by_cases hf:(qP ev V ks s).2.fail=0
   ·rw[zEN hf]; exact zUy hf rfl
   ·have e2:∀v,zf true (qP ev V ks s).2 v=vz:=fun v=>by simp[zf,hf]
    rw[e2];exact zEF hf
 | ite _ i n r u a b c ns _ ha hb hc =>
  have e1:qH p 1 ev (.mk i 5 n r u [a,b,c] ns) V s=jI ev (.mk i 5 n r u [a,b,c] ns) V s:=by simp[qH]
  rw[e1];exact zGv (.inl rfl) (zQH h rfl rfl ha hb hc hV hN hB.bn)
 | lets _ i n r u a b ns v _ hfr ha hb =>
  have e1:qH p 1 ev (.mk i 6 n r u [a,b] ns) V s=jI ev (.mk i 6 n r u [a,b] ns) V s:=by simp[qH]
  rw[e1];exact zGv (.inr (.inl rfl)) (zQI h rfl rfl hfr ha hb hV hN hB.bn)
 | field _ i r u a ns d j hd hk hj ha =>
  have e1:qH p 1 ev (.mk i 8 j r u [a] ns) V s=jI ev (.mk i 8 j r u [a] ns) V s:=by simp[qH]
  rw[e1];exact zGv (.inr (.inr (.inl rfl))) (zNJ h rfl rfl rfl hd hk hj ha hV hN hB.bn)
 | mtch _ i n r u a ks ns d _ hfr hd hk hl ha hw =>
  have e1:qH p 1 ev (.mk i 10 n r u (a::ks) ns) V s=jI ev (.mk i 10 n r u (a::ks) ns) V s:=by simp[qH]
  rw[e1];exact zGv (.inr (.inr (.inr (.inl rfl)))) (zNK h rfl rfl hfr hd hk hl (by have:=(hsl d (zAt hd).1).1; omega) ha hw hV hN hB.bn)
 | fold _ i n r u l s' b ns v _ hfr hl' hs' hb =>
  have e1:qH p 1 ev (.mk i 12 n r u [l,s',b] ns) V s=jI ev (.mk i 12 n r u [l,s',b] ns) V s:=by simp[qH]
  rw[e1];exact zGv (.inr (.inr (.inr (.inr rfl)))) (zOH h rfl rfl hfr hl' hs' hb hV hN hB.bn)
def zYf:K:=G [kO 4 1,kZ 6 [ki,ki,kl]] (Z (G [M 8 0,kU 9 8,D 10 9 3,L 11 10 1,kQi 12 11 0 true] (Y 12 (G [kb 13 [ki,ki,kl] [],S 6 13 3] kr) ks)) (Z (G [M 14 0,kU 15 14,D 16 15 2,L 17 16 1,kBi 18 17 0 .leq] (Y 18 (G [M 19 0,kU 20 19,D 21 20 3,⟨none,.st none (kt 21) (kc 18) 1⟩] (G [kb 22 [ki,ki,kl] [],S 6 22 3] kr)) ks)) (G [M 23 0,kU 24 23,D 25 24 2,L 26 25 1,kBi 27 26 1 .sub,kU 28 23,D 29 28 2,S 29 27 1] (Z (K.dops [(0,0,M 30 0),(1,0,kU 31 30),(2,0,D 32 31 4),(3,0,L 33 32 1),(4,0,D 34 4 0),(5,0,J 35 34 3),(6,4,⟨none,.call (some 36) (kt 33) [(.const (.bool false)),(kt 35)]⟩)]) (G [M 37 0,J 38 4 15,M 39 2,kC 40 129 [(kt 37),(kt 38),(kt 39)],kZ 7 [ki,ki,kl],S 7 40 3] (Z (G [M 41 0,kU 42 41,D 43 42 3,L 44 43 1,kQi 45 44 0 false,M 46 45,T 46 true (J 47 7 3),T 46 true (kC 48 130 [(kt 47)]),T 46 true (kBi 49 48 256 .gtr),T 46 true (M 50 49),T 50 false (J 51 7 3),T 50 false (kC 52 131 [(kt 51)]),T 50 false (kBi 53 52 24 .gtr),T 46 true (kPt 54 50 53),kPf 55 46 54] (Y 55 (K.ops [M 56 0,kU 57 56,D 58 57 3,⟨none,.st none (kt 58) (kc 4) 1⟩]) ks)) (G [J 59 7 3,S 6 59 3] kr)))))))
def qQM:Nat→Option (List (Nat×Nat)):=fun r=>match r with | 7=>some [(0,0),(1,0),(2,0),(3,0),(4,0),(5,0),(6,4)] | _=>none
theorem qC9:qD prog Tryz.f93.ntmps qQM (Tryz.f93.body.getD .skip)=some zYf.erase:=by kernel_rfl
@[simp] theorem qPU:zA prog 93=true:=by kernel_rfl
theorem zPI (hf:s.fail≠0):TOk p (vz,s) e V s:=by have hP:=eP p;refine zI Tryz.func93 rfl qC9 (rs:=[.cell 6 3 true]) (by kernel_rfl) ?_;unfold zYf;simp[tE,tS,hP,zF,hf];exact zG [0,1,2,3,4,5,6] 0 (by decide) (by simp) (by simp) (by simp[zJ,qG,zZ,zM])
theorem zPJ (hf:s.fail=0)(hu:s.fuel≤0):TOk p (vz,{s with fail:=zKR}) e V s:=by have hP:=eP p;refine zI Tryz.func93 rfl qC9 (rs:=[.cell 6 3 true]) (by kernel_rfl) ?_;unfold zYf;simp[tE,tS,hP,zF,hf,hu];exact zG [0,1,2,3,4,5,6] 0 (by decide) (by simp) (by simp) (by simp[zJ,qG,zZ,zM])
theorem zZA {r:Val×XS}(hc:c≤100000)(hf:s.fail=0)(hu:¬s.fuel≤0)(hB:Bn c m s)(hv:zQE p e V (zCe e s) r):TOk p (zOY 1 r) e V s:=by
 have hP:=eP p;have hw:IntKind.i64.wrap (s.fuel-1)=s.fuel-1:=IntWalk.i64_in _ (by have:=hB.ns; omega);have b1:=hB.ns;have b2:=hB.ds;have b3:=zNS s.ns;have hn:=zOn false e.id s.ds (ddL s.ns) (by omega) (by omega);simp only[jAc,if_false,←zKM]at hn;have ht:zCe e s=⟨s.fuel-1,s.fail,s.ds,s.ns++[e.id]⟩:=rfl;rw[ht,hf]at hv;have he:zOY 1 r=(r.1,zCP r):=by simp[zOY,zf]
 rw[he];refine zI Tryz.func93 rfl qC9 (rs:=[.cell 6 3 true]) (by kernel_rfl) ?_;unfold zYf;simp[tE,tS,hP,zF,hf,hu,hw];refine zA8 hn [1,2,3,4,5] (by decide) (by simp[nS]) (by simp[jF]) ?_;simp[nS];refine zN hv [0,1,2,3,4,5,6] (by decide) (by simp[tE,tS,hP]) (by simp[zF]) ?_;simp[tE,tS,hP,zJ];by_cases h0:r.2.fail=0
 ·simp[h0];refine zT (zKx r.1) (by simp[zJ]) (by simp) ?_;by_cases h1:256<zDu r.1
  ·have hl:zCP r={r.2 with fail:=zFR}:=by unfold zCP; rw[if_pos ⟨h0,.inl h1⟩]
   simp[h1];exact zG [0,1,2,3,4,5,6] 0 (by decide) (by simp) (by simp[hl,zFR]) (by simp[zJ])
  ·simp[h1];refine zT (zSz r.1) (by simp[zJ]) (by simp) ?_;by_cases h2:24<zBS r.1
   ·have hl:zCP r={r.2 with fail:=zFR}:=by unfold zCP; rw[if_pos ⟨h0,.inr h2⟩]
    simp[h2];exact zG [0,1,2,3,4,5,6] 0 (by decide) (by simp) (by simp[hl,zFR]) (by simp[zJ])
   ·have hl:zCP r=r.2:=by unfold zCP; rw[if_neg fun h=>h.2.elim h1 h2]
    simp[h2];exact zG [0,1,2,3,4,5,6] 0 (by decide) (by simp) (by simp[hl,h0]) (by simp[zJ])
 ·have hl:zCP r=r.2:=by unfold zCP; rw[if_neg fun h=>h0 h.1]
  simp[h0];exact zG [0,1,2,3,4,5,6] 0 (by decide) (by simp) (by simp[hl]) (by simp[zJ])
theorem zQv (hp:zQ8 p)(hsl:zVv p)(hc:c≤100000):∀n:Nat,Ih p c n (zAA p 1 n)
 | 0=>⟨zDN p 1 0,zGh hp 1 0,zIm 1 0,fun e V s hA hB=>by
  rw[zAA];have hu:=hB.fu;split
  ·rename_i hf; exact zPI hf
  ·rename_i hf; exact zPJ (by omega) (by omega)⟩
 | n+1=>⟨zDN p 1 (n+1),zGh hp 1 (n+1),zIm 1 (n+1),fun e V s hA hB=>by
  rw[zAA];split
  ·rename_i hf; exact zPI hf
  ·rename_i hf;have hf:s.fail=0:=by omega
   split
   ·rename_i hu; exact zPJ hf hu
   ·rename_i hu;obtain⟨B,t,he,hV,hN⟩:=hA hf;have ht:=hB.tick e hu;have:((n+1:Nat):Int)-1=n:=by omega
    rw[this]at ht;exact zZA hc hf hu hB (zU6 hp hsl (zQv hp hsl hc n) hc he hV hN ht)⟩
end
def xS (p:Prg)(s:XS):St:=[.box (zS p++[int s.fuel,int s.fail,.sl (zCz s.ds).length (qE (zCz s.ds)),.sl (zCz s.ns).length (qE (zCz s.ns))])]
@[simp] theorem qQz:zA prog 102=true:=by kernel_rfl
@[simp] theorem qQ0:zA prog 138=true:=by kernel_rfl
@[simp] theorem qQy:zA prog 51=true:=by kernel_rfl
section
variable {p:Prg}{c:Nat}{m:Int}{ev:Evl}{e:Exp}{V:List EVar}{s:XS}
@[simp] theorem qQt:zA prog 160=true:=by kernel_rfl
@[simp] theorem qQu:zA prog 51=true:=by kernel_rfl
end
def zAN (ev:Evl)(e:Exp)(V:List EVar)(v:Val)(s:XS):Val×XS :=
 if e.k=5 then ev (e.kids.getD (if v.n=1 then 1 else 2) .zero) V s
 else if e.k=6 then ev (e.kids.getD 1 .zero) (V++[⟨e.id,0,v⟩]) s
 else if e.k=8 then (v.kids.getD e.n.toNat vz,s)
 else if e.k=10 then ev (e.kids.getD (1+v.n).toNat .zero) (V++[⟨e.id,v.n,v.kids.headD vz⟩]) s
 else jY ev V e.id (e.kids.getD 2 .zero) v.kids (ev (e.kids.getD 1 .zero) V s)
theorem zTr {ev:Evl}{e:Exp}{V:List EVar}{s:XS}(h:(ev (e.kids.headD .zero) V s).2.fail=0):jI ev e V s=zAN ev e V (ev (e.kids.headD .zero) V s).1 (ev (e.kids.headD .zero) V s).2:=by unfold jI zAN;rw[if_neg (fun hn=>hn h)]
section
variable {p:Prg}{F m:Int}{ev:Evl}{B:List Bnd}{e:Exp}{V:List EVar}{v:Val}{s:XS}
def zI8:K:=G [kO 5 1,kO 7 3,kZ 8 [ki,ki,kl]] (Z (G [D 12 5 3,L 13 12 1] (K.block 0 (G [kQi 15 13 5 false,M 14 15] (Y 14 (Z (G [D 16 7 1,L 17 16 1,kQi 18 17 0 true] (Y 18 (G [M 19 0,D 20 5 13,L 21 20 1,kXi 22 21 15 1,J 23 22 15,M 24 2,kC 25 115 [(kt 19),(kt 23),(kt 24)],S 8 25 3] kr) ks)) (G [M 26 0,D 27 5 13,L 28 27 1,kXi 29 28 15 2,J 30 29 15,M 31 2,kC 32 115 [(kt 26),(kt 30),(kt 31)],S 8 32 3] kr)) (G [kQi 34 13 6 false,M 33 34] (Y 33 (Z (K.dops [(0,0,M 35 0),(1,0,D 36 5 13),(2,0,L 37 36 1),(3,0,kXi 38 37 15 1),(4,0,J 39 38 15),(5,0,M 40 2),(6,0,D 41 5 0),(7,0,J 42 41 3),(8,0,J 43 7 3),(9,0,kC 44 114 [(kt 40),(kt 42),(kc 0),(kt 43)]),(10,10,kC 45 115 [(kt 35),(kt 39),(kt 44)]),(11,0,S 8 45 3)]) kr) (G [kQi 47 13 8 false,M 46 47] (Y 46 (G [D 48 7 2,L 49 48 1,D 50 5 4,L 51 50 1,kX 52 49 51 3,J 53 52 3,S 8 53 3] kr) (G [kQi 55 13 10 false,M 54 55] (Y 54 (Z (K.dops [(0,0,M 56 0),(1,0,D 57 5 13),(2,0,L 58 57 1),(3,0,D 59 7 1),(4,0,L 60 59 1),(5,0,⟨none,.bin (some 61) .add (kc 1) (kt 60)⟩),(6,0,kX 62 58 61 15),(7,0,J 63 62 15),(8,0,M 64 2),(9,0,D 65 5 0),(10,0,J 66 65 3),(11,0,D 67 7 1),(12,0,L 68 67 1),(13,0,D 69 7 2),(14,0,L 70 69 1),(15,0,kXi 71 70 3 0),(16,0,J 72 71 3),(17,0,kC 73 114 [(kt 64),(kt 66),(kt 68),(kt 72)]),(18,10,kC 74 115 [(kt 56),(kt 63),(kt 73)]),(19,0,S 8 74 3)]) kr) ks)))))))))) (G [M 75 0,D 76 5 13,L 77 76 1,kXi 78 77 15 1,J 79 78 15,M 80 2,kC 81 115 [(kt 75),(kt 79),(kt 80)],kZ 9 [ki,ki,kl],S 9 81 3] (Z (G [D 82 7 2,
 L 83 82 1,kN 84 83,kMi 85 0] (K.block 1 (K.loop (G [kB 86 85 84 .lss] (Z (Y 86 ks (K.exit 1)) (Z (K.block 2 (G [kX 87 83 85 3,J 88 87 3,kZ 11 [ki,ki,kl],S 11 88 3] (K.dops [(0,0,M 89 0),(1,0,D 90 5 13),(2,0,L 91 90 1),(3,0,kXi 92 91 15 2),(4,0,J 93 92 15),(5,0,M 94 2),(6,0,D 95 5 0),(7,0,J 96 95 3),(8,0,J 97 11 3),(9,0,kC 98 114 [(kt 94),(kt 96),(kc 0),(kt 97)]),(10,0,D 99 5 0),(11,0,J 100 99 3),(12,0,J 101 9 3),(13,0,kC 102 114 [(kt 98),(kt 100),(kc 1),(kt 101)]),(14,10,kC 103 115 [(kt 89),(kt 93),(kt 102)]),(15,0,S 9 103 3)]))) (K.ops [kBi 104 85 1 .add,M 85 104]))))))) (G [J 105 9 3,S 8 105 3] kr))))
def qQA:Nat→Option (List (Nat×Nat)):=fun r=>match r with | 7=>some [(0,0),(1,0),(2,0),(3,0),(4,0),(5,0),(6,0),(7,0),(8,0),(9,0),(10,10),(11,0)] | 11=>some [(0,0),(1,0),(2,0),(3,0),(4,0),(5,0),(6,0),(7,0),(8,0),(9,0),(10,0),(11,0),(12,0),(13,0),(14,0),(15,0),(16,0),(17,0),(18,10),(19,0)] | 16=>some [(0,0),(1,0),(2,0),(3,0),(4,0),(5,0),(6,0),(7,0),(8,0),(9,0),(10,0),(11,0),(12,0),(13,0),(14,10),(15,0)] | _=>none
theorem zKf:qD prog Tryz.f165.ntmps qQA (Tryz.f165.body.getD .skip)=some zI8.erase:=by kernel_rfl
@[simp] theorem qOV:zA prog 165=true:=by kernel_rfl
abbrev BrE (p:Prg)(F:Int)(e:Exp)(V:List EVar)(v:Val)(s:XS)(r:Val×XS):Prop:=RP 165 [.ptr 0 0,.agg (zF e),scE V,.agg (zJ v)] p F s (.agg (zJ r.1)) r.2
theorem zYL {a b d:Exp}{x:Int}(hx:x=0∨x=1)(hk:e.k=5)(hks:e.kids=[a,b,d])(hb:zMr p F b V s (ev b V s))(hd:zMr p F d V s (ev d V s)):BrE p F e V (.mk 1 x []) s (zAN ev e V (.mk 1 x []) s):=by
 have hP:=eP p;have hY:zAN ev e V (.mk 1 x []) s=ev (if x=1 then b else d) V s:=by unfold zAN;rw[hks];rcases hx with rfl | rfl<;>simp[hk,zZ]
 rw[hY];rcases hx with rfl | rfl
 ·rw[if_neg (by decide)];generalize ev d V s=r at *
  constructor
  ·intro hf;refine zI Tryz.func165 rfl zKf (rs:=[.cell 8 3 true]) (by kernel_rfl) ?_;unfold zI8;simp[eS,hP,zF,zJ,hk,hks,zH,qG,zZ,zM];refine zN (hd.ret hf) [0] (by decide) (by simp[eS,hP]) (by simp[zF]) ?_;simp[eS,hP,zJ];exact zG [0] 0 (by decide) (by simp) (by simp) (by simp[zJ])
  ·intro hf;refine zAp Tryz.func165 rfl zKf (rs:=[.cell 8 3 true]) (by kernel_rfl) ?_;unfold zI8 wpF;simp[eS,hP,zF,zJ,hk,hks,zH,qG,zZ,zM];refine zHN (hd.pan hf) [0] (by decide) (by simp[eS,hP]) (by simp[zF]) fun τ=>?_
   simp
 ·rw[if_pos rfl];generalize ev b V s=r at *
  constructor
  ·intro hf;refine zI Tryz.func165 rfl zKf (rs:=[.cell 8 3 true]) (by kernel_rfl) ?_;unfold zI8;simp[eS,hP,zF,zJ,hk,hks,zH,qG,zZ,zM];refine zN (hb.ret hf) [0] (by decide) (by simp[eS,hP]) (by simp[zF]) ?_;simp[eS,hP,zJ];exact zG [0] 0 (by decide) (by simp) (by simp) (by simp[zJ])
  ·intro hf;refine zAp Tryz.func165 rfl zKf (rs:=[.cell 8 3 true]) (by kernel_rfl) ?_;unfold zI8 wpF;simp[eS,hP,zF,zJ,hk,hks,zH,qG,zZ,zM];refine zHN (hb.pan hf) [0] (by decide) (by simp[eS,hP]) (by simp[zF]) fun τ=>?_
   simp
theorem zYM {a b:Exp}(hk:e.k=6)(hks:e.kids=[a,b])(hb:zMr p F b (V++[⟨e.id,0,v⟩]) s (ev b (V++[⟨e.id,0,v⟩]) s)):BrE p F e V v s (zAN ev e V v s):=by
 have hP:=eP p;have hY:zAN ev e V v s=ev b (V++[⟨e.id,0,v⟩]) s:=by unfold zAN;rw[hks];simp[hk]
 rw[hY];generalize ev b (V++[⟨e.id,0,v⟩]) s=r at *
 have hw:=zC6 V.reverse ⟨e.id,0,v⟩;constructor
 ·intro hf;refine zI Tryz.func165 rfl zKf (rs:=[.cell 8 3 true]) (by kernel_rfl) ?_;unfold zI8;simp[eS,hP,zF,zJ,hk,hks,zH,qG,zZ,zM];refine qK hw (by simp[jF,zJ]) (by simp) ?_;simp[eS,hP];refine zCl (hb.ret hf) [0] (by decide) (by simp[eS,hP]) (by simp[zF]) ?_;simp[eS,hP,zJ];exact zG [0] 0 (by decide) (by simp) (by simp) (by simp[zJ])
 ·intro hf;refine zAp Tryz.func165 rfl zKf (rs:=[.cell 8 3 true]) (by kernel_rfl) ?_;unfold zI8 wpF;simp[eS,hP,zF,zJ,hk,hks,zH,qG,zZ,zM];refine qK hw (by simp[jF,zJ]) (by simp) ?_;simp[eS,hP];refine zD2 (hb.pan hf) [0] (by decide) (by simp[eS,hP]) (by simp[zF]) fun τ=>?_
  simp
theorem zT4 {a:Exp}{vs:List Val}{j:Nat}(hk:e.k=8)(hn:e.n=j)(hs:s.fail=0)(hj:j<vs.length)(hks:e.kids=[a]):BrE p F e V (.mk 2 0 vs) s (zAN ev e V (.mk 2 0 vs) s):=by
 have hP:=eP p;have hY:zAN ev e V (.mk 2 0 vs) s=(vs[j],s):=by unfold zAN;simp[hk,hn,zM,hj]
 rw[hY];refine⟨fun _=>?_,fun hf=>(hf hs).elim⟩;refine zI Tryz.func165 rfl zKf (rs:=[.cell 8 3 true]) (by kernel_rfl) ?_;unfold zI8;simp[eS,hP,zF,zJ,hk,hks,zH,qG,zZ,zM,hn,hj,jN hj];exact zG [0] 0 (by decide) (by simp) (by simp) (by simp[zJ])
theorem zT5 {a:Exp}{ks:List Exp}{q:Nat}{x:Val}(hk:e.k=10)(hks:e.kids=a::ks)(hq:q<ks.length)(hl6:ks.length≤32768)(hb:zMr p F ks[q] (V++[⟨e.id,q,x⟩]) s (ev ks[q] (V++[⟨e.id,q,x⟩]) s)):BrE p F e V (.mk 3 q [x]) s (zAN ev e V (.mk 3 q [x]) s):=by
 have hP:=eP p;have e2:(1+(q:Int)).toNat=q+1:=by omega
 have hw1:IntKind.i64.wrap (1+(q:Int))=((q+1:Nat):Int):=by rw[IntWalk.i64_in _ (by omega)]; omega
 have hY:zAN ev e V (.mk 3 q [x]) s=ev ks[q] (V++[⟨e.id,q,x⟩]) s:=by unfold zAN;rw[hks];simp[hk,zZ,zM,e2,hq]
 rw[hY];generalize ev ks[q] (V++[⟨e.id,q,x⟩]) s=r at *
 have hw:=zC6 V.reverse ⟨e.id,q,x⟩;have hdr:(qL (a::ks)).drop ((q+1)*15)=zF ks[q]++qL (ks.drop (q+1)):=by
  have:=yJ (l:=a::ks) (i:=q+1) (by simpa using hq)
  simpa using this
 have hlt:q+1<(a::ks).length:=by simpa using hq
 generalize hQ:a::ks=Q at *
 obtain⟨M,hM⟩:∃M,M=q+1:=⟨_,rfl⟩;rw[←hM]at hw1 hdr hlt;constructor
 ·intro hf;refine zI Tryz.func165 rfl zKf (rs:=[.cell 8 3 true]) (by kernel_rfl) ?_;unfold zI8;simp[eS,hP,zF,zJ,hk,hks,qG,zZ,zM,hw1,hlt,hdr];refine qK hw (by simp[jF,zJ]) (by simp) ?_;simp[eS,hP];refine zCl (hb.ret hf) [0] (by decide) (by simp[eS,hP]) (by simp[zF]) ?_;simp[eS,hP,zJ];exact zG [0] 0 (by decide) (by simp) (by simp) (by simp[zJ])
 ·intro hf;refine zAp Tryz.func165 rfl zKf (rs:=[.cell 8 3 true]) (by kernel_rfl) ?_;unfold zI8 wpF;simp[eS,hP,zF,zJ,hk,hks,qG,zZ,zM,hw1,hlt,hdr];refine qK hw (by simp[jF,zJ]) (by simp) ?_;simp[eS,hP];refine zD2 (hb.pan hf) [0] (by decide) (by simp[eS,hP]) (by simp[zF]) fun τ=>?_
  simp
theorem zWg {l z b:Exp}{vs:List Val}(h:zHG ev)(hk:e.k=12)(hks:e.kids=[l,z,b])(hz:zMr p F z V s (ev z V s))(hb:∀x a s',s'.fail=0→(∃i,(jY ev V e.id b (vs.take i) (ev z V s))=(a,s')∧vs[i]?=some x)→zMr p F b (V++[⟨e.id,0,x⟩]++[⟨e.id,1,a⟩]) s' (ev b (V++[⟨e.id,0,x⟩]++[⟨e.id,1,a⟩]) s')) :
 BrE p F e V (.mk 4 0 vs) s (zAN ev e V (.mk 4 0 vs) s):=by
 have hP:=eP p;have hY:zAN ev e V (.mk 4 0 vs) s=jY ev V e.id b vs (ev z V s):=by unfold zAN;rw[hks];simp[hk,zM]
 rw[hY];have htk:vs.take vs.length=vs:=jAp;generalize ev z V s=r at *
 by_cases hr0:r.2.fail=0
 ·have hz:=hz.ret hr0;constructor
  ·intro hf;have hpre:∀i,i≤vs.length→(jY ev V e.id b (vs.take i) r).2.fail=0:=fun i hi=>zIT h V e.id b vs r i vs.length hi (by rw[htk]; exact hf)
   refine zI Tryz.func165 rfl zKf (rs:=[.cell 8 3 true]) (by kernel_rfl) ?_;unfold zI8;simp[eS,hP,zF,zJ,hk,hks,zH,qG,zZ,zM];refine zN hz [0] (by decide) (by simp[eS,hP]) (by simp[zF]) ?_;simp[eS,hP,zJ];intro hls;refine qW (S:=Nat) (fun i=>[(0,.ptr 0 0),(2,scE V),(5,.ptr 1 0),(8,.ptr 3 0),(9,.ptr 4 0),(83,.sl vs.length (zV vs)),(84,int vs.length),(85,int i)])
    (fun i=>eS p F (jY ev V e.id b (vs.take i) r).2++[.box (zF e),.box (zJ (.mk 4 0 vs)),.box [int 0,int 0,.nil],.box (zJ (jY ev V e.id b (vs.take i) r).1)]) (fun i=>i≤vs.length) (fun i=>vs.length-i) 0 (by simp)
    (zR [0,1,2,3,4] 0 (by decide) (by simp) (by simp[eS,hP,zF,zJ,hks,zH,hk,jY,qG,zZ,zM]) (by simp)) ?_
   intro i hi;by_cases hil:i<vs.length
   ·have hw0:=zC6 V.reverse ⟨e.id,0,vs[i]⟩;have hsn:=zFa ev V e.id b vs[i] (vs.take i) r;rw[←jA9 hil]at hsn;have hdr:=jN hil;have HP1:=hpre (i+1) hil;have hok:=hb vs[i] _ _ (hpre i hi) ⟨i,rfl,jA2 hil⟩;generalize hFn:jY ev V e.id b (vs.take (i+1)) r=Fn at hsn HP1;subst hsn;generalize hFi:jY ev V e.id b (vs.take i) r=Fi at *
    obtain⟨acc,si⟩:=Fi;simp only at *
    have hw1:=zC6 (⟨e.id,0,vs[i]⟩::V.reverse) ⟨e.id,1,acc⟩;generalize ev b (V++[⟨e.id,0,vs[i]⟩]++[⟨e.id,1,acc⟩]) si=rk at *
    obtain⟨v',sk⟩:=rk;simp only at *
    simp[eS,hP,zF,zJ,hil,hdr,hks,zH,hFi,qG,zZ,zM];refine qK hw0 (by simp[jF,zJ]) (by simp) ?_;simp[eS,hP];refine qK hw1 (by simp[jF,zJ]) (by simp) ?_;simp[eS,hP];refine zCl (hok.ret HP1) [0] (by decide) (by simp[eS,hP]) (by simp[zF]) ?_;simp[eS,hP,zJ];exact zU (i+1) hil (by omega) (zR [0,1,2,3,4] 0 (by decide) (by simp) (by simp[eS,hP,zF,zJ,hks,zH,hFn,hk,qG,zZ,zM]) (by simp[qA hil hls]))
   ·have hil:i=vs.length:=by omega
    subst hil;rw[htk];simp[eS,hP,zJ];exact zG [0] 0 (by decide) (by simp) (by simp) (by simp[zJ])
  ·intro hf;obtain⟨k,hk1,hk0,hk2⟩:=zJO h V e.id b vs r hr0 hf;have hpre:∀i,i≤k→(jY ev V e.id b (vs.take i) r).2.fail=0:=fun i hi=>zIT h V e.id b vs r i k hi hk0
   rw[←hk2]at hf ⊢;refine zAp Tryz.func165 rfl zKf (rs:=[.cell 8 3 true]) (by kernel_rfl) ?_;unfold zI8 wpF;simp[eS,hP,zF,zJ,hk,hks,zH,qG,zZ,zM];refine zN hz [0] (by decide) (by simp[eS,hP]) (by simp[zF]) ?_;simp[eS,hP,zJ];intro hls;refine qW (S:=Nat) (fun i=>[(0,.ptr 0 0),(2,scE V),(5,.ptr 1 0),(8,.ptr 3 0),(9,.ptr 4 0),(83,.sl vs.length (zV vs)),(84,int vs.length),(85,int i)])
    (fun i=>eS p F (jY ev V e.id b (vs.take i) r).2++[.box (zF e),.box (zJ (.mk 4 0 vs)),.box [int 0,int 0,.nil],.box (zJ (jY ev V e.id b (vs.take i) r).1)]) (fun i=>i≤k) (fun i=>vs.length-i) 0 (by simp)
    (zR [0,1,2,3,4] 0 (by decide) (by simp) (by simp[eS,hP,zF,zJ,hks,zH,hk,jY,qG,zZ,zM]) (by simp)) ?_
   intro i hi;have hil:i<vs.length:=by omega
   have hw0:=zC6 V.reverse ⟨e.id,0,vs[i]⟩;have hsn:=zFa ev V e.id b vs[i] (vs.take i) r;rw[←jA9 hil]at hsn;have hdr:=jN hil;have hok:=hb vs[i] _ _ (hpre i hi) ⟨i,rfl,jA2 hil⟩;by_cases hik:i<k
   ·have HP1:=hpre (i+1) hik;generalize hFn:jY ev V e.id b (vs.take (i+1)) r=Fn at hsn HP1;subst hsn;generalize hFi:jY ev V e.id b (vs.take i) r=Fi at *
    obtain⟨acc,si⟩:=Fi;simp only at *
    have hw1:=zC6 (⟨e.id,0,vs[i]⟩::V.reverse) ⟨e.id,1,acc⟩;generalize ev b (V++[⟨e.id,0,vs[i]⟩]++[⟨e.id,1,acc⟩]) si=rk at *
    obtain⟨v',sk⟩:=rk;simp only at *
    simp[eS,hP,zF,zJ,hil,hdr,hks,zH,hFi,qG,zZ,zM];refine qK hw0 (by simp[jF,zJ]) (by simp) ?_;simp[eS,hP];refine qK hw1 (by simp[jF,zJ]) (by simp) ?_;simp[eS,hP];refine zCl (hok.ret HP1) [0] (by decide) (by simp[eS,hP]) (by simp[zF]) ?_;simp[eS,hP,zJ];exact zU (i+1) hik (by omega) (zR [0,1,2,3,4] 0 (by decide) (by simp) (by simp[eS,hP,zF,zJ,hks,zH,hFn,hk,qG,zZ,zM]) (by simp[qA hil hls]))
   ·have hik:i=k:=by omega
    subst hik;have HP1:=hf;generalize hFn:jY ev V e.id b (vs.take (i+1)) r=Fn at hsn HP1;subst hsn;generalize hFi:jY ev V e.id b (vs.take i) r=Fi at *
    obtain⟨acc,si⟩:=Fi;simp only at *
    have hw1:=zC6 (⟨e.id,0,vs[i]⟩::V.reverse) ⟨e.id,1,acc⟩;generalize ev b (V++[⟨e.id,0,vs[i]⟩]++[⟨e.id,1,acc⟩]) si=rk at *
    obtain⟨v',sk⟩:=rk;simp only at *
    simp[eS,hP,zF,zJ,hil,hdr,hks,zH,hFi,qG,zZ,zM];refine qK hw0 (by simp[jF,zJ]) (by simp) ?_;simp[eS,hP];refine qK hw1 (by simp[jF,zJ]) (by simp) ?_;simp[eS,hP];refine zD2 (hok.pan HP1) [0] (by decide) (by simp[eS,hP]) (by simp[zF]) fun τ=>?_
    simp
 ·have hx:(jY ev V e.id b vs r).2=r.2:=zDL h V e.id b vs r hr0;unfold BrE;rw[hx];refine⟨fun hf=>(hr0 hf).elim,fun hf=>?_⟩;refine zAp Tryz.func165 rfl zKf (rs:=[.cell 8 3 true]) (by kernel_rfl) ?_;unfold zI8 wpF;simp[eS,hP,zF,zJ,hk,hks,zH,qG,zZ,zM];refine zHN (hz.pan hf) [0] (by decide) (by simp[eS,hP]) (by simp[zF]) fun τ=>?_
  simp
end
structure Res where
 v:Val
 ds:List Id
 ns:List Id
 e:Int
def zDK (r:Res):A:=.tup [.agg (zJ r.v),.agg [.sl r.ds.length (qE r.ds),.sl r.ns.length (qE r.ns)],int r.e]
def zM2 (r:Val×XS):Res:=⟨if r.2.fail=0 then r.1 else vz,zCz r.2.ds,zCz r.2.ns,r.2.fail⟩
def zBN (p:Prg)(d:Dfn)(vs:List Val)(fuel:Int):Val×XS:=zAX (zAA p 1 fuel.toNat) d vs ⟨fuel,0,zBt p d.slots [],[]⟩
def zAJ (p:Prg)(id:Id)(vs:List Val)(fuel:Int):Res:=match jO p.defs id with
 | none=>⟨vz,[],[],6⟩
 | some d=>if zAI d.kind=false then ⟨vz,[],[],6⟩ else if vs.length≠d.slots.length then ⟨vz,[],[],1⟩
  else if zAG p (d.slots.map Slt.typ) vs=false then ⟨vz,[],[],1⟩ else zM2 (zBN p d vs fuel)
theorem zIS {P:Prg}:∀{ts:List Typ} {vs:List Val},vs.length=ts.length→(∀(j:Nat) (h1:j<ts.length) (h2:j<vs.length),zBq P ts[j] vs[j]=true)→zAG P ts vs=true
 | [],[],_,_=>rfl
 | t::ts,v::vs,hl,h=>by rw[zAG,jA6];exact⟨h 0 (by simp) (by simp),zIS (by simpa using hl) fun j h1 h2=>h (j+1) (by simpa using h1) (by simpa using h2)⟩
 | [],v::vs,hl,_=>by simp at hl
 | t::ts,[],hl,_=>by simp at hl
def zVo:K:=(Z (K.dops [(0,0,J 87 20 3),(1,0,D 88 13 0),(2,0,L 89 88 1),(3,1,kC 90 48 [(kt 89)]),(4,0,D 91 13 1),(5,0,L 92 91 1),(6,1,kC 93 48 [(kt 92)]),(7,0,kb 94 [kl,kl] [(0,1,(kt 90)),(1,1,(kt 93))]),(8,0,M 95 16),(9,0,kU 96 95),(10,2,D 97 96 3),(11,2004,L 98 97 1),(12,1004,S 8 87 3),(13,1004,S 9 94 2),(14,0,M 10 98)]) kr)
def qHF:K:=G [kO 4 0,kO 5 1,kZ 8 [ki,ki,kl],kZ 9 [kl,kl],kMi 10 0] (G [J 22 4 2,J 23 5 3,kC 24 42 [(kt 22),(kt 23)],M 21 24,kE 25 21 0,kE 26 21 1,kZ 11 kz0,S 11 25 31,M 12 26] (Z (G [M 27 12,kR 28 27,M 29 28,T 29 false (J 30 11 31),T 29 false (kC 31 43 [(kt 30)]),T 29 false (kR 32 31),kPt 33 29 32] (Y 33 (G [kb 34 [ki,ki,kl] [],kb 35 [kl,kl] [],S 8 34 3,S 9 35 2,kMi 10 6] kr) ks)) (Z (G [M 36 2,kN 37 36,D 38 11 8,L 39 38 1,kN 40 39,kQ 41 37 40 true] (Y 41 (G [kb 42 [ki,ki,kl] [],kb 43 [kl,kl] [],S 8 42 3,S 9 43 2,kMi 10 1] kr) ks)) (G [kZ 13 [kl,kl]] (G [⟨none,.mop (some 44) (.mk 3) []⟩,kZ 14 [(.map none)],S 14 44 1] (G [⟨none,.clo (some 45) 44 [] [(kt 13),(kt 14)]⟩,M 15 45] (G [J 46 4 2,M 47 3,M 48 15,kb 49 [kl,kl,ki,ki,.nilFunc] [(0,2,(kt 46)),(2,1,(kt 47)),(4,1,(kt 48))],kO 50 49,M 16 50] (G [⟨none,.mop (some 51) (.mk 3) []⟩,M 17 51] (Z (G [D 52 11 8,L 53 52 1,kN 54 53,kMi 55 0] (K.block 0 (K.loop (G [kB 56 55 54 .lss] (Z (Y 56 ks (K.exit 0)) (Z (K.block 1 (G [M 57 55,kX 58 53 55 11,J 59 58 11,kZ 19 kz5,M 18 57,S 19 59 11] (Z (Z (K.dops [(0,0,J 60 4 2),(1,0,D 61 19 4),(2,0,J 62 61 5),(3,0,M 63 2),(4,0,M 64 18),(5,0,kX 65 63 64 3),(6,0,J 66 65 3),(7,0,kC 67 45 [(kt 60),(kt 62),(kt 66)]),(8,0,kR 68 67)]) (Y 68 (G [kb 69 [ki,ki,kl] [],kb 70 [kl,kl] [],S 8 69 3,S 9 70 2,kMi 10 1] kr) ks)) (K.ops [M 71 16,D 72 19 4,J 73 72 5,M 74 17,kC 75 46 [(kt 71),(kt 73),(kt 74)]])))) (K.ops [kBi 76 55 1 .add,M 55 76]))))))) (G [M 77 16,J 78 11 31,
 M 79 2,kC 80 47 [(kt 77),(kt 78),(kt 79)],kZ 20 [ki,ki,kl],S 20 80 3] (Z (G [M 81 16,kU 82 81,D 83 82 3,L 84 83 1,kQi 85 84 0 true] (Y 85 (K.ops [kb 86 [ki,ki,kl] [],S 20 86 3]) ks)) (K.wk zVo))))))))))))
def qQL:Nat→Option (List (Nat×Nat)):=fun r=>match r with | 21=>some [(0,0),(1,0),(2,0),(3,1),(4,0),(5,0),(6,1),(7,0),(8,0),(9,0),(10,2),(11,2004),(12,1004),(13,1004),(14,0)] | _=>none
theorem qOB:qD prog Tryz.f13.ntmps qQL (Tryz.f13.body.getD .skip)=some qHF.erase:=by kernel_rfl
@[simp] theorem qPT:zA prog 13=true:=by kernel_rfl
@[simp] theorem qMe:zA prog 46=true:=by kernel_rfl
theorem zML (p:Prg)(d:Dfn)(v:Val)(y:A)(fuel fail:Int)(ds ns:List Id)(h1:ds.length≤1000000)(h2:ns.length≤1000000) :
 wpK prog 0 zVo (fin [RS.cell 8 3 true,RS.cell 9 2 true,RS.slot 10] (zGS 0 (zDK ⟨v,zCz ds,zCz ns,fail⟩) []))
  (qT [(8,.ptr 0 0),(9,.ptr 1 0),(13,.ptr 5 0),(16,.ptr 4 0),(20,.ptr 6 0)])
  [.box [int 0,int 0,.nil],.box [.nil,.nil],.box (zS p),.box (zO d),.box (zS p++[int fuel,int fail,.clo 44 [] [.ptr 5 0,y]]),.box [.sl ds.length (qE ds),.sl ns.length (qE ns)],.box (zJ v)]:=by
 have hP:=eP p;unfold zVo;simp[hP,zJ];refine zAw (zJu ds h1) (by simp) (by simp) ?_;simp;refine zAw (zJu ns h2) (by simp) (by simp) ?_;simp;exact⟨by simp[zBi],by simp[zBi,zFg],by simp[zBi,zFg],zC 0 (by simp[zDK,zJ])⟩
theorem zE4 {d:Dfn}(h:zAI d.kind=true):zB3 d=true:=by simp[zAI]at h;simp[zB3];omega
theorem zMH {p:Prg}{hs:List Hd}(hf:Fit p hs):zVv p:=fun d hd=>⟨(hf.slots d hd).2.1,(hf.slots d hd).2.2.2.1⟩
theorem zQs {p:Prg}{hs:List Hd}(hf:Fit p hs)(id:Id)(vs:List Val)(fuel:Int)(hfu:fuel≤90000)(hz:∀v∈vs,qI v≤256∧zAK v≤24) :
 Ret prog 13 [.agg (zS p),.agg (jF id),.sl vs.length (zV vs),int fuel] [] (zDK (zAJ p id vs fuel)) []:=by
 have hP:=eP p;refine zI Tryz.func13 rfl qOB (rs:=[.cell 8 3 true,.cell 9 2 true,.slot 10]) (by kernel_rfl) ?_;unfold qHF;simp[hP,jF];refine zT (zEU p id) (by simp[zS,jF]) (by simp[zBf]) ?_;cases hd:jO p.defs id with
 | none =>
  rw[show zAJ p id vs fuel=⟨vz,[],[],6⟩ by simp[zAJ,hd]];simp[zBf,hd,zO];exact zC 0 (by simp[zDK,zJ,qG,zZ,zM])
 | some d =>
 have hdm:=(zAt hd).1;obtain⟨s1,s6,_,snd,sty⟩:=hf.slots d hdm;simp[zBf,hd,zO];refine zT (zG2 d) (by simp[zO]) (by simp) ?_;cases hb:zAI d.kind with
 | false =>
  rw[show zAJ p id vs fuel=⟨vz,[],[],6⟩ by simp[zAJ,hd,hb]];simp;exact zC 0 (by simp[zDK,zJ,qG,zZ,zM])
 | true =>
 by_cases hl:vs.length=d.slots.length
 ·have hfit:=fun i (hi:i<d.slots.length)=>zNG p d.slots[i].typ (vs[i]'(by omega)) (hz _ (jA0 _)).1 (hz _ (jA0 _)).2
  have hgo:∀s:XS,s.ns=[]→∀i (hi:i<d.slots.length),zHF p s 10 d.slots[i].typ:=fun s hs0 i hi=>zPY hf s hs0 (sty _ (jA0 hi)) 10 (by omega)
  have hrl:∀i,i≤d.slots.length→RL p (zBt p (d.slots.take i) []):=by
   intro i hi;induction i with
   | zero=>exact⟨by simp[zBt],by simp[zBt]⟩
   | succ i ih =>
    have:=zGB (fun L (s:Slt)=>zAb p 10 s.typ L) [] (l:=d.slots) (i:=i) (by omega);unfold zBt at ih ⊢;rw[this];exact((hgo ⟨0,0,[],[]⟩ rfl i (by omega)) _ (ih (by omega))).1
  obtain⟨S,hS⟩:∃S:XS,S=⟨fuel,0,[],[]⟩:=⟨_,rfl⟩;have hS0:S.ns=[]:=by rw[hS]
  have hSf:S.fuel=fuel:=by rw[hS]
  have hSe:S.fail=0:=by rw[hS]
  simp[hl];intro hls;refine qW (S:=Nat) (fun i=>[(2,.sl vs.length (zV vs)),(4,.ptr 7 0),(8,.ptr 8 0),(9,.ptr 9 0),(10,int 0),(11,.ptr 10 0),(13,.ptr 1 0),(16,.ptr 0 0),(17,.map 6),(53,.sl d.slots.length (yE d.slots)),(54,int d.slots.length),(55,int i)])
   (fun i=>rS p S (zBt p (d.slots.take i) [])++[.box (zS p),.box [int 0,int 0,.nil],.box [.nil,.nil],.box (zO d)]) (fun i=>i≤d.slots.length∧∀j (hj:j<i) (hj':j<d.slots.length),zBq p d.slots[j].typ (vs[j]'(by omega))=true) (fun i=>d.slots.length-i) 0 ⟨by omega,fun j hj=>by omega⟩
   (((zAv (l:=5) (o:=0) rfl rfl 29 3).trans (zAv (l:=5) (o:=1) rfl rfl 29 3)).trans (zR [8,5,7,10,11,6,9,0,2,3,4] 0 (by decide) (by simp) (by simp[rS,tS,hP,hS,zBt,ddL,zIj,zO]) (by simp[hl]))) ?_
  rintro i ⟨hi,hft⟩;by_cases hil:i<d.slots.length
  ·have hiv:i<vs.length:=by omega
   have hdr:=jU hil;have hdv:=jN hiv;have hfi:=hfit i hil;obtain⟨_,hro⟩:=hgo S hS0 i hil _ (hrl i (by omega));have hst:=zGB (fun L (s:Slt)=>zAb p 10 s.typ L) [] hil;change zBt p (d.slots.take (i+1)) []=zAb p 10 d.slots[i].typ (zBt p (d.slots.take i) [])at hst;generalize zBt p (d.slots.take i) []=L at hro hst ⊢;have hd0:ddL S.ns=[]:=by rw[hS0]; rfl
   cases hfv:zBq p d.slots[i].typ vs[i]with
   | false =>
    rw[hfv]at hfi;have hfl:zAG p (d.slots.map Slt.typ) vs=false:=by
     cases hq:zAG p (d.slots.map Slt.typ) vs with
     | false=>rfl
     | true =>
      have:=zG9 hq i (by simpa using hil) hiv;rw[jAr,hfv]at this;cases this
    have hx:zAJ p id vs fuel=⟨vz,[],[],1⟩:=by simp[zAJ,hd,hb,hl,hfl]
    rw[hx];simp[rS,tS,hP,hSf,hSe,hd0,hil,hiv,hdr,hdv,zAu];refine qK hfi (by simp[hP,zB,zJ]) (by simp) ?_;simp;exact zC 0 (by simp[zDK,zJ,qG,zZ,zM])
   | true =>
    rw[hfv]at hfi;simp[rS,tS,hP,hSf,hSe,hd0,hil,hiv,hdr,hdv,zAu];refine qK hfi (by simp[hP,zB,zJ]) (by simp) ?_;simp;refine zN hro [0,1,2,3,4,5,6] (by decide) (by simp[rS,tS,hP,hSf,hSe,hd0]) (by simp[zB]) ?_;simp[rS,tS,hP,hSf,hSe,hd0];refine zU (i+1) ⟨hil,fun j hj hj'=>?_⟩ (by omega) (zR [0,1,2,3,4,5,6,7,8,9,10] 0 (by decide) (by simp) (by simp[rS,tS,hP,hSf,hSe,hd0,hst]) (by simp[qA hil hls]));by_cases hji:j=i
    ·subst hji; exact hfv
    ·exact hft j (by omega) hj'
  ·have hie:i=d.slots.length:=by omega
   subst hie;have hfl:zAG p (d.slots.map Slt.typ) vs=true:=zIS (by simpa using hl) fun j h1 h2=>by rw[jAr];exact hft j (by simpa using h1) (by simpa using h1)
   have hx:zAJ p id vs fuel=zM2 (zBN p d vs fuel):=by simp[zAJ,hd,hb,hl,hfl]
   rw[hx];have htk:d.slots.take d.slots.length=d.slots:=jAp;have hL8:=(hrl d.slots.length (jA _)).len hf;rw[htk]at hL8 ⊢;have hty:TyL p (d.slots.map Slt.typ) vs:=TyL.of (by simpa using hl) fun j hj=>by rw[jAr];exact zS4 hf (sty _ (jA0 _)) _ (hft j (by omega) (by omega))
   have hbB:zB3 d=true:=zE4 hb;have hBd:Bd 100000 fuel.toNat ⟨fuel,0,zBt p d.slots [],[]⟩:=⟨by simp; omega,by simp only; omega,by simp only; omega,fun _=>by simp only; omega⟩;have hIh:=zQv (c:=100000) hf.bods (zMH hf) (by omega) fuel.toNat;have hbo:=zSp hIh (by omega) d vs (fun _=>hl) snd s6 (fun _ _=>⟨_,_,hf.bods _ d hd hbB,EnvT.args hty fun v hv=>(hz v hv).1,zKn snd vs hl⟩) hBd;have hrB:=zKD hIh.bd d vs _ hBd;change Ret prog 47 _ _ (.agg (zJ (zBN p d vs fuel).1)) (tS p (zBN p d vs fuel).2)at hbo;change Bd 100000 fuel.toNat (zBN p d vs fuel).2 at hrB;generalize zBN p d vs fuel=r at *
   obtain⟨v,s⟩:=r;simp only at *
   have hd0:ddL S.ns=[]:=by rw[hS0]; rfl
   have r1:=hrB.ds;have r2:=hrB.ns;have r3:=zNS s.ns;generalize zBt p d.slots []=L at *
   simp[rS,tS,hP,hSf,hSe,hd0,zO];refine zN hbo [0,1,2,3,4,5] (by decide) (by simp[tS,hP,ddL,zIj]) (by simp[zO]) ?_;simp[tS,hP,zJ];by_cases h0:s.fail=0
   ·have he:zM2 (v,s)=⟨v,zCz s.ds,zCz (ddL s.ns),s.fail⟩:=by rw[zSV]; simp[zM2,h0]
    rw[he];simp[h0];have hr:=zML p d v (.rptr [.any]) s.fuel s.fail s.ds (ddL s.ns) (by omega) (by omega);rw[h0]at hr;exact⟨_,_,zR [8,9,7,10,0,1,11] 1 (by decide) (by simp) (by simp[hP,zO,zJ]) (by simp),hr⟩
   ·have he:zM2 (v,s)=⟨vz,zCz s.ds,zCz (ddL s.ns),s.fail⟩:=by rw[zSV]; simp[zM2,h0]
    rw[he];simp[h0];exact⟨_,_,zR [8,9,7,10,0,1,11] 1 (by decide) (by simp) (by simp[hP,zO,zJ,qG,zZ,zM]) (by simp),zML p d vz (.rptr [.any]) s.fuel s.fail s.ds (ddL s.ns) (by omega) (by omega)⟩
 ·rw[show zAJ p id vs fuel=⟨vz,[],[],1⟩ by simp[zAJ,hd,hb,hl]];have hl':¬((vs.length:Int)=d.slots.length):=by omega
  simp[hl']
  intros
  exact zC 0 (by simp[zDK,zJ,qG,zZ,zM])
def uS (p:Prg)(F:Int)(s:XS):St:=[.box (zS p++[int F,int (F-s.fuel),int s.fail])]
@[simp] theorem qQg:zA prog 137=true:=by kernel_rfl
@[simp] theorem qQh:zA prog 158=true:=by kernel_rfl
@[simp] theorem qQf:zA prog 99=true:=by kernel_rfl
section
variable {p:Prg}{F:Int}{c:Nat}{m:Int}{ev:Evl}{e:Exp}{V:List EVar}{s:XS}
@[simp] theorem qQa:zA prog 175=true:=by kernel_rfl
@[simp] theorem qQb:zA prog 99=true:=by kernel_rfl
end
section
variable {p:Prg}{c:Nat}{m:Int}{ev:Evl}{e:Exp}{V:List EVar}{s:XS}
@[simp] theorem qQx:zA prog 138=true:=by kernel_rfl
section
variable {A:List Val×XS}(hA:Ret prog 160 [.ptr 0 0,.sl e.kids.length (qL e.kids),.sl V.length (zDa V)] (xS p s) (.sl A.1.length (zV A.1)) (xS p A.2))
include hA
end
end
theorem zZ7 {p:Prg}{hs:List Hd}(hf:Fit p hs){r:Nat}{t:Typ}(ht:TyOk hs r t){x:Id}:Nam t x→x∈p.defs.map Dfn.id:=by
 induction ht with
 | int r=>intro hx; cases hx with
  | here _ h=>simp at h
  | kid _ k x h=>simp at h
 | bool r=>intro hx; cases hx with
  | here _ h=>simp at h
  | kid _ k x h=>simp at h
 | list r t h ih=>intro hx; cases hx with
  | here _ h=>simp at h
  | kid _ k x h hx' =>
   simp only[Typ.kids_mk,jAg]at h;subst h;exact ih hx'
 | dfn r k h h1 h2 h3 h4 ih=>intro hx; cases hx with
  | here _ h' =>
   obtain⟨d,hd,_⟩:=hf.hd k h;obtain⟨a,b⟩:=zAt hd;exact jAi.2 ⟨d,a,b⟩
  | kid _ k x h=>simp at h
structure RS (p:Prg)(L:List Id):Prop where
 ss:SS L
 sub:∀x∈L,x∈p.defs.map Dfn.id
theorem RS.len {p:Prg}{hs:List Hd}(hf:Fit p hs){L:List Id}(h:RS p L):L.length≤8:=by
 have hn:L.Nodup:=by have:=h.ss;unfold SS at this;exact this.imp fun {a b} hab e=>by subst e; simp[zCj]at hab
 have:=hn.length_le_of_subset (l₂:=p.defs.map Dfn.id) h.sub;have:=hf.len8;simp at *
 omega
theorem RS.nam {p:Prg}{hs:List Hd}(hf:Fit p hs){L:List Id}(h:RS p L){r:Nat}{t:Typ}(ht:TyOk hs r t):RS p (zPA t L) :=
 ⟨zSJ t L h.ss,fun x hx=>by
  rcases (zPB t L x).1 hx with hx | hx
  ·exact h.sub x hx
  ·exact zZ7 hf ht hx⟩
theorem RS.fold {p:Prg} {α : Type}(g : α→List Id→List Id):∀(l:List α) (L:List Id),(∀a∈l,∀L,RS p L→RS p (g a L))→RS p L→RS p (l.foldl (fun L a=>g a L) L)
 | [],L,_,h=>h
 | a::l,L,hg,h=>by rw[jBh];exact RS.fold g l _ (fun b hb=>hg b (by simp[hb])) (hg a (by simp) L h)
@[simp] theorem qPB:zA prog 100=true:=by kernel_rfl
end Go.Proofs.YthglhccibdlccaaGreatDoor
