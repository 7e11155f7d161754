/- trace: branches. -/
import Derived.Test.YtolkhapmieigcaaGreatDoorX17
set_option linter.unusedVariables false
set_option maxHeartbeats 8000000
set_option maxRecDepth 100000
set_option linter.unusedSimpArgs false
open Go.Proofs.Tryz
namespace Go.Proofs.YtolkhapmieigcaaGreatDoor
open Go.Abs
def Adm(p:Prg)(e:Exp)(V:wP)(s:XS):Prop:=s.fail=0->∃B t,WE p B e t/\EnvT p B V/\NdV V
structure Ih(p:Prg)(c:Nat)(m:Int)(ev:Evl):Prop where
 stop:zId ev
 snd:Snd p ev
 bd:∀e V s,Bn c m s->Bd c m (ev e V s).2
 ok:∀e V s,Adm p e V s->Bn c m s->TOk p (ev e V s) e V s
section
variable{p:Prg}{c:Nat}{m:Int}{ev:Evl}{B:wJ}{e:Exp}{V:wP}{s:XS}
variable{t:Typ}
theorem Adm.of(h:WE p B e t)(hV:EnvT p B V)(hN:NdV V):Adm p e V s:=fun _=>⟨B,t,h,hV,hN⟩
theorem Adm.bad(h:s.fail≠0):Adm p e V s:=fun e=>(h e).elim
def zK4:K:=G [kO 4 1,kZ 6 [ki,ki,kl]] (G [M 13 0,D 14 4 13,L 15 14 1,kXi 16 15 15 0,J 17 16 15,M 18 2,kC 19 166 [(kt 13),(kt 17),(kt 18)],kZ 7 [ki,ki,kl],S 7 19 3] (Z (G [M 20 0,kU 21 20,D 22 21 3,L 23 22 1,kQi 24 23 0 true] (Y 24 (G [kb 25 [ki,ki,kl] [],S 6 25 3] kr) ks)) (Z (G [D 26 4 3,L 27 26 1] (K.block 0 (G [kQi 29 27 5 false,M 28 29] (Y 28 (Z (G [D 30 7 1,L 31 30 1,kQi 32 31 1 false] (Y 32 (G [M 33 0,D 34 4 13,L 35 34 1,kXi 36 35 15 1,J 37 36 15,M 38 2,kC 39 166 [(kt 33),(kt 37),(kt 38)],S 6 39 3] kr) ks)) (G [M 40 0,D 41 4 13,L 42 41 1,kXi 43 42 15 2,J 44 43 15,M 45 2,kC 46 166 [(kt 40),(kt 44),(kt 45)],S 6 46 3] kr)) (G [kQi 48 27 6 false,M 47 48] (Y 47 (Z (K.dops [(0,0,M 49 0),(1,0,D 50 4 13),(2,0,L 51 50 1),(3,0,kXi 52 51 15 1),(4,0,J 53 52 15),(5,0,M 54 2),(6,0,D 55 4 0),(7,0,J 56 55 3),(8,0,kb 57 zLr [(0,3,(kt 56)),(3,1,(kc 0))]),(9,0,J 58 7 3),(10,4,kC 59 232 [(kt 49),(kt 53),(kt 54),(kt 57),(kt 58)]),(11,0,S 6 59 3)]) kr) (G [kQi 61 27 8 false,M 60 61] (Y 60 (G [D 62 7 2,L 63 62 1,D 64 4 4,L 65 64 1,kX 66 63 65 3,J 67 66 3,S 6 67 3] kr) (G [kQi 69 27 10 false,M 68 69] (Y 68 (Z (K.dops [(0,0,M 70 0),(1,0,D 71 4 13),(2,0,L 72 71 1),(3,0,D 73 7 1),(4,0,L 74 73 1),(5,0,⟨none,.bin (some 75) .add (kc 1) (kt 74)⟩),(6,0,kX 76 72 75 15),(7,0,J 77 76 15),(8,0,M 78 2),(9,0,D 79 4 0),(10,0,J 80 79 3),(11,0,D 81 7 1),(12,0,L 82 81 1),(13,0,kb 83 zLr [(0,3,(kt 80)),(3,1,(kt 82))]),(14,0,D 84 7 2),(15,0,L 85 84 1),(16,0,kXi 86 85 3 0),(17,0,
 J 87 86 3),(18,4,kC 88 232 [(kt 70),(kt 77),(kt 78),(kt 83),(kt 87)]),(19,0,S 6 88 3)]) kr) ks)))))))))) (G [M 89 0,D 90 4 13,L 91 90 1,kXi 92 91 15 1,J 93 92 15,M 94 2,kC 95 166 [(kt 89),(kt 93),(kt 94)],kZ 8 [ki,ki,kl],S 8 95 3] (Z (G [D 96 7 2,L 97 96 1,kN 98 97,kMi 99 0] (K.block 1 (K.loop (G [kB 100 99 98 .lss] (Z (Y 100 ks (K.exit 1)) (Z (K.block 2 (G [kX 101 97 99 3,J 102 101 3,kZ 10 [ki,ki,kl],S 10 102 3] (G [J 103 8 3,kZ 11 [ki,ki,kl],S 11 103 3] (G [D 104 4 0,J 105 104 3,kb 106 zLr [(0,3,(kt 105)),(3,1,(kc 0))],kZ 12 zLr,S 12 106 4] (G [M 107 2,J 108 12 4,J 109 10 3,⟨none,.mop none (.set 4) [(kt 107),(kt 108),(kt 109)]⟩] (Z (K.dops [(0,0,M 110 0),(1,0,D 111 4 13),(2,0,L 112 111 1),(3,0,kXi 113 112 15 2),(4,0,J 114 113 15),(5,0,M 115 2),(6,0,D 116 4 0),(7,0,J 117 116 3),(8,0,kb 118 zLr [(0,3,(kt 117)),(3,1,(kc 1))]),(9,0,J 119 11 3),(10,4,kC 120 232 [(kt 110),(kt 114),(kt 115),(kt 118),(kt 119)]),(11,0,S 8 120 3)]) (K.ops [M 121 2,J 122 12 4,⟨none,.mop none (.del 4) [(kt 121),(kt 122)]⟩]))))))) (K.ops [kBi 123 99 1 .add,M 99 123]))))))) (G [J 124 8 3,S 6 124 3] kr))))))
def qKS:Nat->Option wE:=fun|10=>k_ [0,0,0,0,0,0,0,0,0,0,4,0] | 14=>k_ [0,0,0,0,0,0,0,0,0,0,0,0,0,0,0,0,0,0,4,0] | 22=>k_ [0,0,0,0,0,0,0,0,0,0,4,0]|_=>none
theorem zNA:kx f223 qKS zK4:=mz (by kernel_rfl)
@[simp]theorem qJZ:zA prog 223=true:=by kernel_rfl
abbrev zAw(p:Prg)(ev:Evl)(e:Exp)(V:wP)(s:XS):Prop:=my 223 [.ptr 0 0,.agg (zH e),.map 6] (tE p s V) (.agg (z7 (jO ev e V s).1)) (tE p (jO ev e V s).2 V)
variable{a:Exp}
theorem lD(h:Ih p c m ev){ks:wH}(hks:e.kids=a::ks)(hA:Adm p a V s)(hB:Bn c m s)(hf:(ev a V s).2.fail≠0):zAw p ev e V s:=by
 have hr:=h.ok a V s hA hB;have hx:jO ev e V s=(vz,(ev a V s).2):=by unfold jO;rw[hks];simp[hf]
 unfold zAw;rw[hx];generalize ev a V s=r at hr hf;refine zJ func223 rfl zNA (rs:=[.cell 6 3 true]) (by kernel_rfl) ?_;unfold zK4;have hP:=eP p;have hd:=zM a ks;simp[tE,tS,hP,zH,hks,zM];refine mr hr [0,1,2,3,4,5,6] (by simp[tE,tS,hP,zH]) ?_;simp[tE,tS,hP,z7,hf];exact mv [0,1,2,3,4,5,6] 0 (by rfl) (by simp[z7,bA,yL,jM])
variable{b:Exp}
theorem zKB(h:Ih p c m ev){d:Exp}(hk:e.k=5)(hks:e.kids=[a,b,d])(ha:WE p B a jV)(hb:WE p B b t)(hd:WE p B d t)(hV:EnvT p B V)(hN:NdV V)(hB:Bn c m s):zAw p ev e V s:=by
 by_cases hf:(ev a V s).2.fail=0
 .have hr:=h.ok a V s (.of ha hV hN) hB;have hB1:=(h.bd a V s hB).bn;have hty:=(h.snd a B V s _ ha hV hf).1.bool_inv;have hx:jO ev e V s=ev (if (ev a V s).1.n=1 then b else d) V (ev a V s).2:=by unfold jO;rw[hks];simp only[jD0,hf,hk];by_cases hn:(ev a V s).1.n=1<;>simp[hn]
  unfold zAw;rw[hx];clear hx;generalize ev a V s=r at *
  obtain⟨v,s1⟩:=r;simp only at *
  have r1:=h.ok b V s1 (.of hb hV hN) hB1;have r2:=h.ok d V s1 (.of hd hV hN) hB1;obtain⟨x,rfl,hxx⟩:=hty;refine zJ func223 rfl zNA (rs:=[.cell 6 3 true]) (by kernel_rfl) ?_;unfold zK4;have hP:=eP p;simp[tE,tS,hP,zH,hks,zM,hk];refine mr hr [0,1,2,3,4,5,6] (by simp[tE,tS,hP,zH]) ?_;rcases hxx with rfl|rfl
  .simp[tE,tS,hP,z7,hf,bA,yL,jM];refine mr r2 [0,1,2,3,4,5,6] (by simp[tE,tS,hP,hf,zH]) ?_;simp[tE,tS,hP,z7];exact mv [0,1,2,3,4,5,6] 0 (by rfl) (by simp[z7])
  .simp[tE,tS,hP,z7,hf,bA,yL,jM];refine mr r1 [0,1,2,3,4,5,6] (by simp[tE,tS,hP,hf,zH]) ?_;simp[tE,tS,hP,z7];exact mv [0,1,2,3,4,5,6] 0 (by rfl) (by simp[z7])
 .exact lD h hks (.of ha hV hN) hB hf
theorem zKC(h:Ih p c m ev){u:Typ}(hk:e.k=6)(hks:e.kids=[a,b])(hfr:∀x∈B,x.id≠e.id)(ha:WE p B a u)(hb:WE p (B++[⟨e.id,0,u⟩]) b t)(hV:EnvT p B V)(hN:NdV V)(hB:Bn c m s):zAw p ev e V s:=by
 by_cases hf:(ev a V s).2.fail=0
 .have hr:=h.ok a V s (.of ha hV hN) hB;have hB1:=(h.bd a V s hB).bn;have hty:=h.snd a B V s _ ha hV hf;have hfv:=hV.ids hfr;have hx:jO ev e V s=ev b (V++[⟨e.id,0,(ev a V s).1⟩]) (ev a V s).2:=by unfold jO;rw[hks];simp[hf,hk]
  unfold zAw;rw[hx];clear hx;generalize ev a V s=r at *
  obtain⟨v,s1⟩:=r;simp only at *
  have r1:=zFg b V e.id 0 v s1 _ (.of hfv 0) (h.ok b (V++[⟨e.id,0,v⟩]) s1 (.of hb (hV.push hty) (hN.push (.of hfv 0))) hB1);generalize ev b (V++[⟨e.id,0,v⟩]) s1=r' at *
  refine zJ func223 rfl zNA (rs:=[.cell 6 3 true]) (by kernel_rfl) ?_;unfold zK4;have hP:=eP p;simp[tE,tS,hP,zH,hks,zM,hk];refine mr hr [0,1,2,3,4,5,6] (by simp[tE,tS,hP,zH]) ?_;simp[tE,tS,hP,z7,hf];refine cS r1 [0,1,2,3,4,5,6] (by decide) (by simp[tE,tS,hP,hf]) (by simp[zH,z7]) ?_;simp[tE,tS,hP,z7];exact mv [0,1,2,3,4,5,6] 0 (by rfl) (by simp[z7])
 .exact lD h hks (.of ha hV hN) hB hf
theorem zGV(h:Ih p c m ev){d:Dfn}{j:Nat}(hk:e.k=8)(hn:e.n=j)(hks:e.kids=[a])(hd:qM p.defs e.ref=some d)(hdk:d.kind=0)(hj:j<d.slots.length)(ha:WE p B a (dP e.ref))(hV:EnvT p B V)(hN:NdV V)(hB:Bn c m s):zAw p ev e V s:=by
 by_cases hf:(ev a V s).2.fail=0
 .have hr:=h.ok a V s (.of ha hV hN) hB;have hty:=(h.snd a B V s _ ha hV hf).1.def_inv hd;have hx:jO ev e V s=((ev a V s).1.kids.getD j vz,(ev a V s).2):=by unfold jO;rw[hks];simp[hf,hk,hn]
  unfold zAw;rw[hx];clear hx;generalize ev a V s=r at *
  obtain⟨v,s1⟩:=r;simp only at *
  obtain⟨_,vs,hl,rfl,_⟩:=hty.resolve_right (fun h=>by omega);have hjv:j<vs.length:=by omega
  refine zJ func223 rfl zNA (rs:=[.cell 6 3 true]) (by kernel_rfl) ?_;unfold zK4;have hP:=eP p;simp[tE,tS,hP,zH,hks,zM,hk,hn];refine mr hr [0,1,2,3,4,5,6] (by simp[tE,tS,hP,zH]) ?_;simp[tE,tS,hP,z7,hf,bA,yL,jM,hjv,j6 hjv];exact mv [0,1,2,3,4,5,6] 0 (by rfl) (by simp[z7,jM,hjv])
 .exact lD h hks (.of ha hV hN) hB hf
theorem zGW(h:Ih p c m ev){ks:wH}{d:Dfn}(hk:e.k=10)(hks:e.kids=a::ks)(hfr:∀x∈B,x.id≠e.id)(hd:qM p.defs e.ref=some d)(hdk:d.kind=1)(hl:ks.length=d.slots.length)(hl6:ks.length<=32768)(ha:WE p B a (dP e.ref))
 (hw:∀(j:Nat)(hj:j<ks.length),WE p (B++[⟨e.id,j,(d.slots[j]'(hl▸hj)).typ⟩]) ks[j] t)(hV:EnvT p B V)(hN:NdV V)(hB:Bn c m s):zAw p ev e V s:=by
 by_cases hf:(ev a V s).2.fail=0
 .have hr:=h.ok a V s (.of ha hV hN) hB;have hB1:=(h.bd a V s hB).bn;obtain⟨hty,hz⟩:=h.snd a B V s _ ha hV hf;have hty:=hty.def_inv hd;have hfv:=hV.ids hfr;have hx:jO ev e V s=ev (e.kids.getD (1+(ev a V s).1.n).toNat .zero) (V++[⟨e.id,(ev a V s).1.n,(ev a V s).1.kids.headD vz⟩]) (ev a V s).2:=by unfold jO;rw[hks];simp[hf,hk]
  unfold zAw;rw[hx];clear hx;generalize ev a V s=r at *
  obtain⟨v,s1⟩:=r;simp only at *
  obtain⟨_,q,x,hm,rfl,hxt⟩:=hty.resolve_left (fun h=>by omega);have hmk:q<ks.length:=by omega
  have e2:(1+(q:Int)).toNat=q+1:=by omega
  have hw1:IntKind.i64.wrap (1+(q:Int))=((q+1:Nat):Int):=by rw[IntWalk.i64_in _ (by omega)];omega
  simp only[yL,jM,jD0,e2,hks,jBz,jBi,jA2 hmk,jCn];have r1:=zFg ks[q] V e.id q x s1 _ (.of hfv q) (h.ok ks[q] (V++[⟨e.id,q,x⟩]) s1 (.of (hw q hmk) (hV.push ⟨hxt,oW hz (by simp[jM])⟩) (hN.push (.of hfv q))) hB1);generalize ev ks[q] (V++[⟨e.id,q,x⟩]) s1=r' at *
  have hdr:(qS (a::ks)).drop ((q+1)*15)=zH ks[q]++qS (ks.drop (q+1)):=by
   have:=yX (l:=a::ks) (i:=q+1) (by simpa using hmk)
   simpa using this
  have hlt:q+1<(a::ks).length:=by simpa using hmk
  refine zJ func223 rfl zNA (rs:=[.cell 6 3 true]) (by kernel_rfl) ?_;unfold zK4;have hP:=eP p;have h0:=zM a ks;generalize hQ:a::ks=Q at *
  obtain⟨M,hM⟩:∃M,M=q+1:=⟨_,rfl⟩;rw[<-hM]at hw1 hdr hlt;have hQ0:0<Q.length:=by omega
  have hq0:0<Q.length*15:=by omega
  have hq15:15<=Q.length*15:=by omega
  have ht:(qS Q).take 15=zH a:=by rw[h0];exact List.take_left' rfl
  have ea:zH a=[int a.id.a,int a.id.b,int a.id.c,int a.k,int a.n,int a.ref.a,int a.ref.b,int a.ref.c,int a.typ.k,int a.typ.id.a,int a.typ.id.b,int a.typ.id.c,.sl a.typ.kids.length (jL a.typ.kids),.sl a.kids.length (qS a.kids),.sl a.names.length (aC a.names)]:=rfl;rw[ea]at ht;clear h0;simp[tE,tS,hP,zH,hks,hQ0,hq0,hq15,ht,hk];refine mr hr [0,1,2,3,4,5,6] (by simp[tE,tS,hP,zH]) ?_;simp[tE,tS,hP,z7,hf,bA,yL,jM,hw1,hlt,hdr,zH];refine cS r1 [0,1,2,3,4,5,6] (by decide) (by simp[tE,tS,hP,hf]) (by simp[zH,z7]) ?_;simp[tE,tS,hP,z7];exact mv [0,1,2,3,4,5,6] 0 (by rfl) (by simp[z7])
 .exact lD h hks (.of ha hV hN) hB hf
theorem zIm(h:Ih p c m ev){l z:Exp}{u:Typ}(hk:e.k=12)(hks:e.kids=[l,z,b])(hfr:∀x∈B,x.id≠e.id)(hl:WE p B l (jP u))(hz:WE p B z t)(hb:WE p (B++[⟨e.id,0,u⟩]++[⟨e.id,1,t⟩]) b t)(hV:EnvT p B V)(hN:NdV V)(hB:Bn c m s):zAw p ev e V s:=by
 by_cases hf:(ev l V s).2.fail=0
 .have hr:=h.ok l V s (.of hl hV hN) hB;have hB1:=(h.bd l V s hB).bn;obtain⟨hty,hsz⟩:=h.snd l B V s _ hl hV hf;have hfv:=hV.ids hfr;have hx:jO ev e V s=aN ev V e.id b (ev l V s).1.kids (ev z V (ev l V s).2):=by unfold jO;rw[hks];simp[hf,hk]
  unfold zAw;rw[hx];clear hx;generalize ev l V s=r at *
  obtain⟨v,s1⟩:=r;simp only at *
  obtain⟨vs,rfl,hvs⟩:=hty.list_inv;have hr2:=h.ok z V s1 (.of hz hV hN) hB1;have hB2:=h.bd z V s1 hB1;have ht2:=h.snd z B V s1 _ hz hV;generalize ev z V s1=r2 at *
  simp only[jM];have hst:∀i,Bd c m (aN ev V e.id b (vs.take i) r2).2/\((aN ev V e.id b (vs.take i) r2).2.fail=0->TyV p t (aN ev V e.id b (vs.take i) r2).1/\qU (aN ev V e.id b (vs.take i) r2).1<=256):=fun i =>
   ⟨zDZ h.bd V e.id b _ _ hB2,zEd h.stop h.snd hV hb _ _ (fun x hx=>⟨hvs x (jC3 hx),oW hsz (jC3 hx)⟩) ht2⟩
  have hround:∀(i:Nat) (hi:i<vs.length),TOk p (aN ev V e.id b (vs.take (i+1)) r2) b (V++[⟨e.id,0,vs[i]⟩]++[⟨e.id,1,(aN ev V e.id b (vs.take i) r2).1⟩]) (aN ev V e.id b (vs.take i) r2).2:=fun i hi=>by rw[jA8 hi,zEb];refine h.ok _ _ _ (fun h0=>⟨_,t,hb,(hV.push ⟨hvs _ (jA0 hi),oW hsz (jA0 hi)⟩).push ((hst i).2 h0),(hN.push (.of hfv 0)).push (.push hfv (by decide) _)⟩) (hst i).1.bn
  have htk:vs.take vs.length=vs:=jB2;have hF0:aN ev V e.id b [] r2=r2:=rfl;refine zJ func223 rfl zNA (rs:=[.cell 6 3 true]) (by kernel_rfl) ?_;unfold zK4;have hP:=eP p;simp[tE,tS,hP,zH,hks,zM,hk];refine mr hr [0,1,2,3,4,5,6] (by simp[tE,tS,hP,zH]) ?_;simp[tE,tS,hP,z7,hf,bA,yL,jM];refine mr hr2 [0,1,2,3,4,5,6] (by simp[tE,tS,hP,hf,zH]) ?_;simp[tE,tS,hP,z7,jM];intro hvl;refine qH (S:=Nat) (fun i=>[(0,.ptr 0 0),(2,.map 6),(4,.ptr 7 0),(6,.ptr 8 0),(8,.ptr 9 0),(97,.sl vs.length (zT vs)),(98,int vs.length),(99,int i)])
   (fun i=>tE p (aN ev V e.id b (vs.take i) r2).2 V++[.box (zH e),.box [int 0,int 0,.nil],.box (z7 (aN ev V e.id b (vs.take i) r2).1)]) (fun i=>i<=vs.length) (fun i=>vs.length-i) 0 (by simp)
   (mw [0,1,2,3,4,5,6,7,8,10] 0 (by rfl) (by simp[tE,tS,hP,zH,hks,zM,hk,z7,hF0])) ?_
  intro i hi;by_cases hil:i<vs.length
  .have hro:=hround i hil;have hdr:=j6 hil;generalize hFn:aN ev V e.id b (vs.take (i+1)) r2=Fn at hro;generalize hFi:aN ev V e.id b (vs.take i) r2=Fi at hro;obtain⟨acc,si⟩:=Fi;simp only at hro;generalize vs[i]=x at *
   have p1:=zDs (i:=e.id) (n:=0) (V:=V) (v:=x) (.of hfv 0);have d1:=zHg (i:=e.id) (n:=0) (V:=V) (v:=x) (.of hfv 0);have wo:=zFg b (V++[⟨e.id,0,x⟩]) e.id 1 acc si Fn (.push hfv (by decide) x) hro;simp[tE,tS,hP,zH,hks,zM,hk,z7,hil,hdr,p1,hFi];refine cS wo [0,1,2,3,4,5,6] (by decide) (by simp[tE,tS,hP]) (by simp[zH,z7]) ?_;simp[tE,tS,hP,z7,d1];exact zN (i+1) hil (by omega) (mw [0,1,2,3,4,5,6,7,8,9] 0 (by rfl) (by simp[tE,tS,hP,zH,hks,zM,hk,z7,hFn,zY hil hvl]))
  .have hil:i=vs.length:=by omega
   subst hil;rw[htk];simp[tE,tS,hP,z7];exact mv [0,1,2,3,4,5,6] 0 (by rfl) (by simp[z7])
 .exact lD h hks (.of hl hV hN) hB hf
end
section
variable{p:Prg}{c:Nat}{m:Int}{ev:Evl}{e:Exp}{V:wP}{s:XS}
def qAV:K:=G [kO 4 1,kZ 6 [ki,ki,kl]] (Z (G [M 10 0,kU 11 10,D 12 11 3,L 13 12 1,kQi 14 13 0 true] (Y 14 (G [kb 15 [ki,ki,kl] [],S 6 15 3] kr) ks)) (Z (K.dops [(0,0,M 16 0),(1,0,kU 17 16),(2,0,D 18 17 4),(3,0,L 19 18 1),(4,0,D 20 4 0),(5,0,J 21 20 3),(6,4,⟨none,.call (some 22) (kt 19) [(.const (.bool true)),(kt 21)]⟩)]) (G [⟨none,.mop (some 23) (.mk 4) []⟩,M 7 23] (Z (G [D 24 4 8,L 25 24 1,kN 26 25,kMi 27 0] (K.block 0 (K.loop (G [kB 28 27 26 .lss] (Z (Y 28 ks (K.exit 0)) (Z (K.block 1 (G [M 29 27,kX 30 25 27 11,J 31 30 11,kZ 9 kz5,M 8 29,S 9 31 11] (K.dops [(0,0,M 32 7),(1,0,D 33 9 0),(2,0,J 34 33 3),(3,0,kb 35 zLr [(0,3,(kt 34)),(3,1,(kc 0))]),(4,0,M 36 2),(5,0,M 37 8),(6,0,kX 38 36 37 3),(7,0,J 39 38 3),(8,0,⟨none,.mop none (.set 4) [(kt 32),(kt 35),(kt 39)]⟩)]))) (K.ops [kBi 40 27 1 .add,M 27 40]))))))) (G [M 41 0,D 42 4 14,J 43 42 15,M 44 7,kC 45 166 [(kt 41),(kt 43),(kt 44)],S 6 45 3] kr)))))
def qKR:Nat->Option wE:=fun|3=>k_ [0,0,0,0,0,0,4]|_=>none
theorem qI6:kx f104 qKR qAV:=mz (by kernel_rfl)
theorem zMw(h:Ih p c m ev)(hc:c<=100000)(d:Dfn)(vs:wI)(hl:s.fail=0->vs.length=d.slots.length)(hnd:d.slots.Pairwise fun a b=>a.id≠b.id)(hd6:d.slots.length<=6)
 (hA:s.fail=0->Adm p d.body (iK d.slots vs) {s with ds:=s.ds++[d.id]})(hB:Bd c m s) :
 my 104 [.ptr 0 0,.agg (zQ d),.sl vs.length (zT vs)] (tS p s) (.agg (z7 (dR ev d vs s).1)) (tS p (dR ev d vs s).2):=by
 have hP:=eP p;refine zJ func104 rfl qI6 (rs:=[.cell 6 3 true]) (by kernel_rfl) ?_;unfold qAV;by_cases hf:s.fail=0
 .have hx:dR ev d vs s=ev d.body (iK d.slots vs) {s with ds:=s.ds++[d.id]}:=by unfold dR;rw[if_neg (by simp[hf])]
  rw[hx];have hl:=hl hf;have hb1:=hB.ds;have hb2:=hB.ns;have hb3:=zHf s.ns;have hn:=zH4 true d.id s.ds (ddL s.ns) (by omega) (by omega);have he:=h.ok _ _ _ (hA hf) (hB.def d.id hf);generalize ev d.body (iK d.slots vs) {s with ds:=s.ds++[d.id]}=r at *
  have hel:=zAB d.slots vs hl;have hfr:∀(i:Nat) (hi:i<d.slots.length),Fr ((iK d.slots vs).take i) d.slots[i].id 0:=fun i hi b hb e=>by
   obtain⟨j,hj,rfl⟩:=jAl hb;rw[jAv]at hj;have hj1:j<d.slots.length:=by omega
   have hij:j<i:=by omega
   have:=jC0.1 hnd j i hj1 hi hij;have e1:((iK d.slots vs).take i)[j].id=d.slots[j].id:=by simp[iK]
   exact this (e1.symm.trans e.1)
  have h0:nH []=[]:=rfl;have hall:(iK d.slots vs).take d.slots.length=iK d.slots vs:=by rw[<-hel];exact jB2
  simp[tS,hP,zQ,hf];refine cS hn [1,2,3,4,5] (by decide) (by simp[nS]) (by simp[zX]) ?_;simp[nS];intro hls;refine qH (S:=Nat) (fun i=>[(0,.ptr 0 0),(2,.sl vs.length (zT vs)),(4,.ptr 6 0),(6,.ptr 7 0),(7,.map 8),(25,.sl d.slots.length (qW d.slots)),(26,int d.slots.length),(27,int i)])
   (fun i=>tS p {s with ds:=s.ds++[d.id]}++[.box (zQ d),.box [int 0,int 0,.nil],.mp false 4 (nH ((iK d.slots vs).take i))]) (fun i=>i<=d.slots.length) (fun i=>d.slots.length-i) 0 (by simp)
   ((zTO (l:=8) rfl).trans (mw [0,1,2,3,4,5,6,7,8] 0 (by rfl) (by simp[tS,hP,zQ,hf,h0,qD,zS]))) ?_
  intro i hi;by_cases hil:i<d.slots.length
  .have hiv:i<vs.length:=by omega
   have hdr:=jN hil;have hdv:=j6 hiv;have hp:=zDs (v:=vs[i]) (hfr i hil);have htk:=zNP hl hil;simp[tS,hP,zQ,hil,hiv,hdr,hdv,aD,zO7,x8,vV,hp];exact zN (i+1) hil (by omega) (mw [0,1,2,3,4,5,6,7,8] 0 (by rfl) (by simp[tS,hP,zQ,htk,zY hil hls]))
  .have hil:i=d.slots.length:=by omega
   subst hil;rw[hall];simp[tS,hP,zQ];refine mr he [0,1,2,3,4,5,8] (by simp[tE,tS,hP,zH]) ?_;simp[tE,tS,hP,z7];exact mv [0,1,2,3,4,5] 0 (by rfl) (by simp[z7])
 .have hx:dR ev d vs s=(vz,s):=by unfold dR;rw[if_pos hf]
  rw[hx];simp[tS,hP,zQ,hf];exact mv [0,1,2,3,4,5] 0 (by rfl) (by simp[z7,bA,yL,jM])
def zCt:K:=(Z (G [M 58 0,kU 59 58,D 60 59 3,L 61 60 1,kQi 62 61 0 true] (Y 62 (G [kb 63 [ki,ki,kl] [],S 6 63 3] kr) ks)) (Z (G [D 64 4 3,L 65 64 1] (K.block 3 (G [kQi 67 65 3 false,M 66 67] (Y 66 (Z (K.dops [(0,0,M 69 0),(1,0,kU 70 69),(2,1,D 71 70 0),(3,1,J 72 71 2),(4,1,D 73 4 5),(5,1,J 74 73 3),(6,1,kC 75 70 [(kt 72),(kt 74)]),(7,0,M 68 75),(8,0,kE 76 68 0),(9,0,kE 77 68 1),(10,0,kZ 10 kz0),(11,0,S 10 76 31),(12,0,M 11 77)]) (G [M 78 0,J 79 10 31,M 80 7,kC 81 104 [(kt 78),(kt 79),(kt 80)],S 6 81 3] kr)) (G [kQi 83 65 4 false,M 82 83] (Y 82 (G [D 84 4 4,L 85 84 1,M 86 7,kC 87 220 [(kt 85),(kt 86)],S 6 87 3] kr) (G [kQi 89 65 7 false,M 88 89] (Y 88 (G [M 90 7,kb 91 [ki,ki,kl] [(0,1,(kc 2)),(2,1,(kt 90))],S 6 91 3] kr) (G [kQi 93 65 9 false,M 92 93] (Y 92 (G [D 94 4 4,L 95 94 1,M 96 7,kb 97 [ki,ki,kl] [(0,1,(kc 3)),(1,1,(kt 95)),(2,1,(kt 96))],S 6 97 3] kr) ks)))))))))) (G [M 98 7,kb 99 [ki,ki,kl] [(0,1,(kc 4)),(2,1,(kt 98))],S 6 99 3] kr)))
def zNw:K:=G [kO 4 1,kZ 6 [ki,ki,kl]] (Z (G [D 12 4 3,L 13 12 1] (K.block 0 (G [kQi 15 13 0 false,M 14 15] (Y 14 (G [D 16 4 4,L 17 16 1,kb 18 [ki,ki,kl] [(0,1,(kc 0)),(1,1,(kt 17))],S 6 18 3] kr) (G [kQi 20 13 1 false,M 19 20] (Y 19 (G [D 21 4 4,L 22 21 1,kb 23 [ki,ki,kl] [(0,1,(kc 1)),(1,1,(kt 22))],S 6 23 3] kr) (G [kQi 25 13 2 false,M 24 25] (Y 24 (G [M 26 2,D 27 4 5,J 28 27 3,D 29 4 4,L 30 29 1,kb 31 zLr [(0,3,(kt 28)),(3,1,(kt 30))],⟨none,.mop (some 32) (.get 4 (.agg #[ki,ki,kl]) false) [(kt 26),(kt 31)]⟩,S 6 32 3] kr) (Z (G [kQi 34 13 5 false,M 33 34] (Y 33 ks (G [kQi 35 13 6 false,M 33 35] (Y 33 ks (G [kQi 36 13 8 false,M 33 36] (Y 33 ks (G [kQi 37 13 10 false,M 33 37] (Y 33 ks (K.ops [kQi 38 13 12 false,M 33 38]))))))))) (Y 33 (G [M 39 0,J 40 4 15,M 41 2,kC 42 223 [(kt 39),(kt 40),(kt 41)],S 6 42 3] kr) ks)))))))))) (G [kMn 7] (Z (G [D 43 4 13,L 44 43 1,kN 45 44,kMi 46 0] (K.block 1 (K.loop (G [kB 47 46 45 .lss] (Z (Y 47 ks (K.exit 1)) (Z (K.block 2 (G [kX 48 44 46 15,J 49 48 15,kZ 9 kz1,S 9 49 15] (K.ops [M 50 7,M 51 0,J 52 9 15,M 53 2,kC 54 166 [(kt 51),(kt 52),(kt 53)],kd 55 84 3 1 [ki,ki,kl] [(0,3,(kt 54))],kP 56 84 3 40 50 55,M 7 56]))) (K.ops [kBi 57 46 1 .add,M 46 57]))))))) (K.wk zCt))))
theorem zPY:ky f202 zNw:=m_ (by kernel_rfl)
abbrev zK6(p:Prg)(e:Exp)(V:wP)(s:XS)(r:Val×XS):Prop:=my 202 [.ptr 0 0,.agg (zH e),.map 6] (tE p s V) (.agg (z7 r.1)) (tE p r.2 V)
abbrev iF(p:Prg)(e:Exp)(V:wP)(s:XS)(vs:wI)(r:Val×XS):Prop :=
 wpK prog 7 zCt (fin [RS.cell 6 3 true] (sM 7 (.agg (z7 r.1)) (tE p r.2 V))) (jR [(0,.ptr 0 0),(2,.map 6),(4,.ptr 7 0),(6,.ptr 8 0),(7,.sl vs.length (zT vs))]) (tE p s V++[.box (zH e),.box [int 0,int 0,.nil]])
variable{r:Val×XS}
theorem nD(h:Ih p c m ev)(hk:e.k=3\/e.k=4\/e.k=7\/e.k=9\/e.k=11)(hk6:e.kids.length<=32768)(hA:∀k∈e.kids,∀s,Adm p k V s)(hB:Bd c m s)
 (hr:iF p e V (jQ ev V e.kids s).2 (jQ ev V e.kids s).1 r):zK6 p e V s r:=by
 have hP:=eP p;refine zJ func202 rfl zPY (rs:=[.cell 6 3 true]) (by kernel_rfl) ?_;unfold zNw;have n0:¬e.k=0:=by omega
 have n1:¬e.k=1:=by omega
 have n2:¬e.k=2:=by omega
 have n5:¬e.k=5:=by omega
 have n6:¬e.k=6:=by omega
 have n8:¬e.k=8:=by omega
 have n10:¬e.k=10:=by omega
 have n12:¬e.k=12:=by omega
 have hst:∀i,Bd c m (jQ ev V (e.kids.take i) s).2:=fun i=>zDh h.bd V _ _ hB
 have hln:∀i,i<=e.kids.length->(jQ ev V (e.kids.take i) s).1.length=i:=fun i hi=>by rw[zA1,jAv];omega
 have h00:jQ ev V [] s=([],s):=rfl;simp[tE,tS,hP,zH,n0,n1,n2,n5,n6,n8,n10,n12];intro hl;refine qH (S:=Nat) (fun i=>[(0,.ptr 0 0),(2,.map 6),(4,.ptr 7 0),(6,.ptr 8 0),(7,.row 9 i),(44,.sl e.kids.length (qS e.kids)),(45,int e.kids.length),(46,int i)])
  (fun i=>tE p (jQ ev V (e.kids.take i) s).2 V++[.box (zH e),.box [int 0,int 0,.nil],.row false 84 3 i (zT (jQ ev V (e.kids.take i) s).1)]) (fun i=>i<=e.kids.length) (fun i=>e.kids.length-i) 0 (by simp)
  ((jS (t:=7) (by simp) 84 3).trans (mw [0,1,2,3,4,5,6,7,8,9] 0 (by rfl) (by simp[tE,tS,hP,zH,h00]))) ?_
 intro i hi;by_cases hil:i<e.kids.length
 .have hr:=h.ok e.kids[i] V (jQ ev V (e.kids.take i) s).2 (hA _ (jA0 hil) _) (hst i).bn;have hsn:=zFE ev V e.kids[i] (e.kids.take i) s;rw[<-jA8 hil]at hsn;have hdr:=yX hil;have hln:=hln i hi;generalize hFn:jQ ev V (e.kids.take (i+1)) s=Fn at hsn;subst hsn;generalize hFi:jQ ev V (e.kids.take i) s=Fi at *
  obtain⟨vs,si⟩:=Fi;simp only at *
  generalize ev e.kids[i] V si=rk at *
  obtain⟨v,sk⟩:=rk;simp only at *
  simp[tE,tS,hP,hil,hdr,hFi,zH];refine mr hr [0,1,2,3,4,5,6] (by simp[tE,tS,hP,zH]) ?_;simp[tE,tS,hP,z7];refine⟨⟨by simp[maxLen];omega,by omega⟩,?_⟩;exact zN (i+1) hil (by omega) (mw [0,1,2,3,4,5,6,7,8,9] 0 (by rfl) (by simp[tE,tS,hP,zH,hFn,dV,zY hil hl]))
 .have hil:i=e.kids.length:=by omega
  subst hil;have htk:e.kids.take e.kids.length=e.kids:=jB2;have hln:=hln _ (jA _);rw[htk]at hln ⊢;generalize jQ ev V e.kids s=F at *
  obtain⟨vs,si⟩:=F;simp only at *
  simp;exact⟨_,_,mw [0,1,2,3,4,5,6,7,8] 1 (by rfl) (by simp[tE,tS,hP,zH,hln]),hr⟩
variable{vs:wI}
theorem pB(hf:s.fail≠0):iF p e V s vs (vz,s):=by have hP:=eP p;unfold iF zCt;simp[tE,tS,hP,zH,hf];exact mv [0,1,2,3,4,5,6] 0 (by rfl) (by simp[z7,bA,yL,jM])
theorem zR0(hf:s.fail=0)(hk:e.k=7):iF p e V s vs (.mk 2 0 vs,s):=by have hP:=eP p;unfold iF zCt;simp[tE,tS,hP,zH,hf,hk];exact mv [0,1,2,3,4,5,6] 0 (by rfl) (by simp[hf,z7,bA,yL,jM])
theorem zOP(hf:s.fail=0)(hk:e.k=9):iF p e V s vs (.mk 3 e.n vs,s):=by have hP:=eP p;unfold iF zCt;simp[tE,tS,hP,zH,hf,hk];exact mv [0,1,2,3,4,5,6] 0 (by rfl) (by simp[hf,z7,bA,yL,jM])
theorem zOQ(hf:s.fail=0)(hk:e.k=11):iF p e V s vs (.mk 4 0 vs,s):=by have hP:=eP p;unfold iF zCt;simp[tE,tS,hP,zH,hf,hk];exact mv [0,1,2,3,4,5,6] 0 (by rfl) (by simp[hf,z7,bA,yL,jM])
theorem zTE{ts:wT}{t:Typ}(hf:s.fail=0)(hk:e.k=4)(ho:OpT e.n ts t)(hv:TyL p ts vs)(hs:∀v∈vs,qU v<=256):iF p e V s vs (opV e.n vs,s):=by have hP:=eP p;unfold iF zCt;simp[tE,tS,hP,zH,hf,hk];refine mu (zWJ ho hv hs) (by simp[z7]) ?_;simp[z7];exact mv [0,1,2,3,4,5,6] 0 (by rfl) (by simp[hf,z7])
theorem zOO{d:Dfn}(hf:s.fail=0)(hk:e.k=3)(hd:qM p.defs e.ref=some d)
 (hb:my 104 [.ptr 0 0,.agg (zQ d),.sl vs.length (zT vs)] (tS p s) (.agg (z7 r.1)) (tS p r.2)):iF p e V s vs r:=by
 have hP:=eP p;unfold iF zCt;simp[tE,tS,hP,zH,hf,hk];refine b9 (s9 p e.ref) (by simp[zI,zX]) (by simp[gN]) ?_;simp[gN,hd,zQ];refine mr hb [0,1,2,3,4,5] (by simp[tS,hP,hf,zQ]) ?_;simp[tS,hP,z7];exact mv [0,1,2,3,4,5,6] 0 (by rfl) (by simp[z7])
end
abbrev qKC(x:Int):Value:=.iface 46 (.int .i64 x)
def eS(p:Prg)(F:Int)(s:XS):St:=[.box (zI p++[int F,int (F-s.fuel)])]
structure RP(f:FuncId)(args:List A)(p:Prg)(F:Int)(s:XS)(r:A)(s':XS):Prop where
 ret:s'.fail=0->my f args (eS p F s) r (eS p F s')
 pan:s'.fail≠0->Pan prog f args (eS p F s) (qKC s'.fail)
@[simp]theorem qGn:zA prog 221=true:=by kernel_rfl
section
variable{p:Prg}{F m:Int}{ev:Evl}{e:Exp}{V:wP}{s:XS}
@[simp]theorem qIW:zA prog 219=true:=by kernel_rfl
end
section
variable{p:Prg}{c:Nat}{m:Int}{ev:Evl}{e:Exp}{V:wP}{s:XS}
theorem zPi(hk:e.k=0):zK6 p e V s (.mk 0 e.n [],s):=by have hP:=eP p;refine zJ func202 rfl zPY (rs:=[.cell 6 3 true]) (by kernel_rfl) ?_;unfold zNw;simp[tE,tS,hP,zH,hk];exact mv [0,1,2,3,4,5,6] 0 (by rfl) (by simp[z7,bA,yL,jM])
theorem zMe(hk:e.k=1):zK6 p e V s (.mk 1 e.n [],s):=by have hP:=eP p;refine zJ func202 rfl zPY (rs:=[.cell 6 3 true]) (by kernel_rfl) ?_;unfold zNw;simp[tE,tS,hP,zH,hk];exact mv [0,1,2,3,4,5,6] 0 (by rfl) (by simp[z7,bA,yL,jM])
theorem zPj{v:Val}(hk:e.k=2)(hf:bP [e.ref.a,e.ref.b,e.ref.c,e.n] (nH V)=some (.agg [.lit (.int .i64 v.k),.lit (.int .i64 v.n),.sl v.kids.length (zT v.kids)])):zK6 p e V s (v,s):=by have hP:=eP p;refine zJ func202 rfl zPY (rs:=[.cell 6 3 true]) (by kernel_rfl) ?_;unfold zNw;simp[tE,tS,hP,zH,hk,hf];exact mv [0,1,2,3,4,5,6] 0 (by rfl) (by simp[z7])
theorem uJ(hk:e.k=5\/e.k=6\/e.k=8\/e.k=10\/e.k=12)(hb:zAw p ev e V s):zK6 p e V s (jO ev e V s):=by have hP:=eP p;unfold zAw at hb;generalize jO ev e V s=r at hb;refine zJ func202 rfl zPY (rs:=[.cell 6 3 true]) (by kernel_rfl) ?_;unfold zNw;rcases hk with hk|hk|hk|hk|hk<;>simp[tE,tS,hP,zH,hk]<;>refine mr hb [0,1,2,3,4,5,6] (by simp[tE,tS,hP,zH,hk]) ?_<;>simp[tE,tS,hP,z7]<;>exact mv [0,1,2,3,4,5,6] 0 (by rfl) (by simp[z7])
def zVH(p:Prg):Prop:=∀d∈p.defs,d.slots.length<=6/\d.slots.Pairwise fun a b=>a.id≠b.id
theorem zM6{ss:List Slt}(hnd:ss.Pairwise fun a b=>a.id≠b.id)(vs:wI)(hl:vs.length=ss.length):NdV (iK ss vs):=by
 unfold NdV;rw[jC0];intro i j hi hj hij e;have hi':i<ss.length:=by rw[zAB ss vs hl]at hi;exact hi
 have hj':j<ss.length:=by rw[zAB ss vs hl]at hj;exact hj
 have:=jC0.1 hnd i j hi' hj' hij;have e1:(iK ss vs)[i].id=ss[i].id:=by simp[iK]
 have e2:(iK ss vs)[j].id=ss[j].id:=by simp[iK]
 exact this (by rw[<-e1,<-e2];exact e.1)
theorem zPd(hp:zPn p)(hsl:zVH p)(h:Ih p c m ev)(hc:c<=100000){B:wJ}{t:Typ}(he:WE p B e t)(hV:EnvT p B V)(hN:NdV V)(hB:Bd c m s):zK6 p e V s (qP p 1 ev e V s):=by
 cases he with
 |int _ i n r u ns h1 h2=>exact zPi rfl
 |bool _ i n r u ns h1=>exact zMe rfl
 |var _ i n r u ns _ hl=>exact zPj (e:=.mk i 2 n r u [] ns) rfl (hV.get hN hl)
 |call _ i n r u ks ns hn d hd hk hl hw =>
  have e1:qP p 1 ev (.mk i 3 n r u ks ns) V s=dR ev d (jQ ev V ks s).1 (jQ ev V ks s).2:=by simp[qP,dfn,hd]
  rw[e1];have hB1:=zDh h.bd V ks s hB;have hdm:=(y8 hd).1;refine nD h (.inl rfl) hn (fun k hk s=>?_) hB ?_
  .obtain⟨j,hj,rfl⟩:=jAl hk;exact .of (hw j hj) hV hN
  .simp only[Exp.kids_mk];by_cases hf:(jQ ev V ks s).2.fail=0
   .obtain⟨ht,hz⟩:=pO h.stop h.snd hV ks _ s hl hw hf;have hlen:=ht.len;rw[jAa]at hlen;exact zOO hf rfl hd (zMw h hc d _ (fun _=>hlen) (hsl d hdm).2 (hsl d hdm).1 (fun _ _=>⟨_,_,hp r d hd (by simp[eU,hk]),EnvT.args ht hz,zM6 (hsl d hdm).2 _ hlen⟩) hB1)
   .have e2:dR ev d (jQ ev V ks s).1 (jQ ev V ks s).2=(vz,(jQ ev V ks s).2):=by unfold dR;rw[if_pos hf]
    rw[e2];exact pB hf
 |op _ i n r u ks ns hn ts _ ho hl hw =>
  have e1:qP p 1 ev (.mk i 4 n r u ks ns) V s=(zf true (jQ ev V ks s).2 (opV n (jQ ev V ks s).1),(jQ ev V ks s).2):=by simp[qP]
  rw[e1];refine nD h (.inr (.inl rfl)) hn (fun k hk s=>?_) hB ?_
  .obtain⟨j,hj,rfl⟩:=jAl hk;exact .of (hw j hj) hV hN
  .simp only[Exp.kids_mk];by_cases hf:(jQ ev V ks s).2.fail=0
   .obtain⟨ht,hz⟩:=pO h.stop h.snd hV ks _ s hl hw hf;rw[zBy hf];exact zTE (e:=.mk i 4 n r u ks ns) hf rfl ho ht hz
   .have e2:zf true (jQ ev V ks s).2 (opV n (jQ ev V ks s).1)=vz:=by simp[zf,hf]
    rw[e2];exact pB hf
 |record _ i n r u ks ns hn d hd hk hl hw =>
  have e1:qP p 1 ev (.mk i 7 n r u ks ns) V s=(zf true (jQ ev V ks s).2 (.mk 2 0 (jQ ev V ks s).1),(jQ ev V ks s).2):=by simp[qP]
  rw[e1];refine nD h (.inr (.inr (.inl rfl))) hn (fun k hk s=>?_) hB ?_
  .obtain⟨j,hj,rfl⟩:=jAl hk;exact .of (hw j hj) hV hN
  .simp only[Exp.kids_mk];by_cases hf:(jQ ev V ks s).2.fail=0
   .rw[zBy hf];exact zR0 hf rfl
   .have e2:∀v,zf true (jQ ev V ks s).2 v=vz:=fun v=>by simp[zf,hf]
    rw[e2];exact pB hf
 |case _ i r u a ns d j hd hk hj ha =>
  have e1:qP p 1 ev (.mk i 9 j r u [a] ns) V s=(zf true (jQ ev V [a] s).2 (.mk 3 j (jQ ev V [a] s).1),(jQ ev V [a] s).2):=by simp[qP]
  rw[e1];refine nD h (.inr (.inr (.inr (.inl rfl)))) (by simp) (fun k hk s=>?_) hB ?_
  .simp only[Exp.kids_mk,jAk]at hk;subst hk;exact .of ha hV hN
  .simp only[Exp.kids_mk];by_cases hf:(jQ ev V [a] s).2.fail=0
   .rw[zBy hf];exact zOP (e:=.mk i 9 j r u [a] ns) hf rfl
   .have e2:∀v,zf true (jQ ev V [a] s).2 v=vz:=fun v=>by simp[zf,hf]
    rw[e2];exact pB hf
 |list _ i n r u ks ns t hn hw =>
  have e1:qP p 1 ev (.mk i 11 n r u ks ns) V s=(zf true (jQ ev V ks s).2 (.mk 4 0 (jQ ev V ks s).1),(jQ ev V ks s).2):=by simp[qP]
  rw[e1];refine nD h (.inr (.inr (.inr (.inr rfl)))) hn (fun k hk s=>?_) hB ?_
  .obtain⟨j,hj,rfl⟩:=jAl hk;exact .of (hw j hj) hV hN
  .simp only[Exp.kids_mk];by_cases hf:(jQ ev V ks s).2.fail=0
   .rw[zBy hf];exact zOQ hf rfl
   .have e2:∀v,zf true (jQ ev V ks s).2 v=vz:=fun v=>by simp[zf,hf]
    rw[e2];exact pB hf
 |ite _ i n r u a b c ns _ ha hb hc =>
  have e1:qP p 1 ev (.mk i 5 n r u [a,b,c] ns) V s=jO ev (.mk i 5 n r u [a,b,c] ns) V s:=by simp[qP]
  rw[e1];exact uJ (.inl rfl) (zKB h rfl rfl ha hb hc hV hN hB.bn)
 |lets _ i n r u a b ns v _ hfr ha hb =>
  have e1:qP p 1 ev (.mk i 6 n r u [a,b] ns) V s=jO ev (.mk i 6 n r u [a,b] ns) V s:=by simp[qP]
  rw[e1];exact uJ (.inr (.inl rfl)) (zKC h rfl rfl hfr ha hb hV hN hB.bn)
 |field _ i r u a ns d j hd hk hj ha =>
  have e1:qP p 1 ev (.mk i 8 j r u [a] ns) V s=jO ev (.mk i 8 j r u [a] ns) V s:=by simp[qP]
  rw[e1];exact uJ (.inr (.inr (.inl rfl))) (zGV h rfl rfl rfl hd hk hj ha hV hN hB.bn)
 |mtch _ i n r u a ks ns d _ hfr hd hk hl ha hw =>
  have e1:qP p 1 ev (.mk i 10 n r u (a::ks) ns) V s=jO ev (.mk i 10 n r u (a::ks) ns) V s:=by simp[qP]
  rw[e1];exact uJ (.inr (.inr (.inr (.inl rfl)))) (zGW h rfl rfl hfr hd hk hl (by have:=(hsl d (y8 hd).1).1;omega) ha hw hV hN hB.bn)
 |fold _ i n r u l s' b ns v _ hfr hl' hs' hb =>
  have e1:qP p 1 ev (.mk i 12 n r u [l,s',b] ns) V s=jO ev (.mk i 12 n r u [l,s',b] ns) V s:=by simp[qP]
  rw[e1];exact uJ (.inr (.inr (.inr (.inr rfl)))) (zIm h rfl rfl hfr hl' hs' hb hV hN hB.bn)
def zSg:K:=G [kO 4 1,kZ 6 [ki,ki,kl]] (Z (G [M 8 0,kU 9 8,D 10 9 3,L 11 10 1,kQi 12 11 0 true] (Y 12 (G [kb 13 [ki,ki,kl] [],S 6 13 3] kr) ks)) (Z (G [M 14 0,kU 15 14,D 16 15 2,L 17 16 1,kBi 18 17 0 .leq] (Y 18 (G [M 19 0,kU 20 19,D 21 20 3,⟨none,.st none (kt 21) (kc 18) 1⟩] (G [kb 22 [ki,ki,kl] [],S 6 22 3] kr)) ks)) (G [M 23 0,kU 24 23,D 25 24 2,L 26 25 1,kBi 27 26 1 .sub,kU 28 23,D 29 28 2,S 29 27 1] (Z (K.dops [(0,0,M 30 0),(1,0,kU 31 30),(2,0,D 32 31 4),(3,0,L 33 32 1),(4,0,D 34 4 0),(5,0,J 35 34 3),(6,4,⟨none,.call (some 36) (kt 33) [(.const (.bool false)),(kt 35)]⟩)]) (G [M 37 0,J 38 4 15,M 39 2,kC 40 202 [(kt 37),(kt 38),(kt 39)],kZ 7 [ki,ki,kl],S 7 40 3] (Z (G [M 41 0,kU 42 41,D 43 42 3,L 44 43 1,kQi 45 44 0 false,M 46 45,T 46 true (J 47 7 3),T 46 true (kC 48 195 [(kt 47)]),T 46 true (kBi 49 48 256 .gtr),T 46 true (M 50 49),T 50 false (J 51 7 3),T 50 false (kC 52 203 [(kt 51)]),T 50 false (kBi 53 52 24 .gtr),T 46 true (kPt 54 50 53),kPf 55 46 54] (Y 55 (K.ops [M 56 0,kU 57 56,D 58 57 3,⟨none,.st none (kt 58) (kc 4) 1⟩]) ks)) (G [J 59 7 3,S 6 59 3] kr)))))))
def qKU:Nat->Option wE:=fun|7=>k_ [0,0,0,0,0,0,4]|_=>none
theorem zVY:kx f166 qKU zSg:=mz (by kernel_rfl)
theorem zJ4(hf:s.fail≠0):TOk p (vz,s) e V s:=by have hP:=eP p;refine zJ func166 rfl zVY (rs:=[.cell 6 3 true]) (by kernel_rfl) ?_;unfold zSg;simp[tE,tS,hP,zH,hf];exact mv [0,1,2,3,4,5,6] 0 (by rfl) (by simp[z7,bA,yL,jM])
theorem zJ5(hf:s.fail=0)(hu:s.fuel<=0):TOk p (vz,{s with fail:=zI6}) e V s:=by have hP:=eP p;refine zJ func166 rfl zVY (rs:=[.cell 6 3 true]) (by kernel_rfl) ?_;unfold zSg;simp[tE,tS,hP,zH,hf,hu];exact mv [0,1,2,3,4,5,6] 0 (by rfl) (by simp[z7,bA,yL,jM])
theorem zTw{r:Val×XS}(hc:c<=100000)(hf:s.fail=0)(hu:¬s.fuel<=0)(hB:Bn c m s)(hv:zK6 p e V (gH e s) r):TOk p (zQw 1 r) e V s:=by
 have hP:=eP p;have hw:IntKind.i64.wrap (s.fuel-1)=s.fuel-1:=IntWalk.i64_in _ (by have:=hB.ns;omega);have b1:=hB.ns;have b2:=hB.ds;have b3:=zHf s.ns;have hn:=zH4 false e.id s.ds (ddL s.ns) (by omega) (by omega);simp only[jAj,if_false,<-zDH]at hn;have ht:gH e s=⟨s.fuel-1,s.fail,s.ds,s.ns++[e.id]⟩:=rfl;rw[ht,hf]at hv;have he:zQw 1 r=(r.1,oZ r):=by simp[zQw,zf]
 rw[he];refine zJ func166 rfl zVY (rs:=[.cell 6 3 true]) (by kernel_rfl) ?_;unfold zSg;simp[tE,tS,hP,zH,hf,hu,hw];refine cS hn [1,2,3,4,5] (by decide) (by simp[nS]) (by simp[zX]) ?_;simp[nS];refine mr hv [0,1,2,3,4,5,6] (by simp[tE,tS,hP,zH]) ?_;simp[tE,tS,hP,z7];by_cases h0:r.2.fail=0
 .simp[h0];refine mu (zNl r.1) (by simp[z7]) ?_;by_cases h1:256<vY r.1
  .have hl:oZ r={r.2 with fail:=zBH}:=by unfold oZ;rw[if_pos ⟨h0,.inl h1⟩]
   simp[h1];exact mv [0,1,2,3,4,5,6] 0 (by rfl) (by simp[hl,zBH,z7])
  .simp[h1];refine mu (zM5 r.1) (by simp[z7]) ?_;by_cases h2:24<p6 r.1
   .have hl:oZ r={r.2 with fail:=zBH}:=by unfold oZ;rw[if_pos ⟨h0,.inr h2⟩]
    simp[h2];exact mv [0,1,2,3,4,5,6] 0 (by rfl) (by simp[hl,zBH,z7])
   .have hl:oZ r=r.2:=by unfold oZ;rw[if_neg fun h=>h.2.elim h1 h2]
    simp[h2];exact mv [0,1,2,3,4,5,6] 0 (by rfl) (by simp[hl,h0,z7])
 .have hl:oZ r=r.2:=by unfold oZ;rw[if_neg fun h=>h0 h.1]
  simp[h0];exact mv [0,1,2,3,4,5,6] 0 (by rfl) (by simp[hl,z7])
theorem zKm(hp:zPn p)(hsl:zVH p)(hc:c<=100000):∀n:Nat,Ih p c n (bD p 1 n)
 | 0=>⟨zAb p 1 0,zEx hp 1 0,zBa 1 0,fun e V s hA hB=>by
  rw[bD];have hu:=hB.fu;split
  .rename_i hf;exact zJ4 hf
  .rename_i hf;exact zJ5 (by omega) (by omega)⟩
 |n+1=>⟨zAb p 1 (n+1),zEx hp 1 (n+1),zBa 1 (n+1),fun e V s hA hB=>by
  rw[bD];split
  .rename_i hf;exact zJ4 hf
  .rename_i hf;have hf:s.fail=0:=by omega
   split
   .rename_i hu;exact zJ5 hf hu
   .rename_i hu;obtain⟨B,t,he,hV,hN⟩:=hA hf;have ht:=hB.tick e hu;have:((n+1:Nat):Int)-1=n:=by omega
    rw[this]at ht;exact zTw hc hf hu hB (zPd hp hsl (zKm hp hsl hc n) hc he hV hN ht)⟩
end
theorem zOU(l:wG)(x:Id):aP (l++[x])=mC (aP l) x:=by rw[mH,mH,jBr];rfl
theorem cI(l:wG):(aP l).length<=l.length:=by
 rw[mH];have:=zMr l []
 simpa using this
def xS(p:Prg)(s:XS):St:=[.box (zI p++[int s.fuel,int s.fail,.sl (aP s.ds).length (zS (aP s.ds)),.sl (aP s.ns).length (zS (aP s.ns))])]
@[simp]theorem qKA:zA prog 210=true:=by kernel_rfl
section
variable{p:Prg}{c:Nat}{m:Int}{ev:Evl}{e:Exp}{V:wP}{s:XS}
@[simp]theorem qK3:zA prog 228=true:=by kernel_rfl
end
section
variable{p:Prg}{F m:Int}{ev:Evl}{B:wJ}{e:Exp}{V:wP}{v:Val}{s:XS}
@[simp]theorem qIY:zA prog 221=true:=by kernel_rfl
end
structure Res where
 v:Val
 ds:List Id
 ns:List Id
 e:Int
def mU(r:Res):A:=.tup [.agg (z7 r.v),.agg [.sl r.ds.length (zS r.ds),.sl r.ns.length (zS r.ns)],int r.e]
def zI8(r:Val×XS):Res:=⟨if r.2.fail=0 then r.1 else vz,aP r.2.ds,aP r.2.ns,r.2.fail⟩
def nI(p:Prg)(d:Dfn)(vs:wI)(fuel:Int):Val×XS:=dR (bD p 1 fuel.toNat) d vs ⟨fuel,0,c7 p d.slots [],[]⟩
def yW(p:Prg)(id:Id)(vs:wI)(fuel:Int):Res:=match qM p.defs id with
 |none=>⟨vz,[],[],6⟩
 |some d=>if eV d.kind=false then ⟨vz,[],[],6⟩ else if vs.length≠d.slots.length then ⟨vz,[],[],1⟩
  else if aH p (d.slots.map Slt.typ) vs=false then ⟨vz,[],[],1⟩ else zI8 (nI p d vs fuel)
theorem zFX{P:Prg}:∀{ts:wT} {vs:wI},vs.length=ts.length->(∀(j:Nat) (h1:j<ts.length) (h2:j<vs.length),cD P ts[j] vs[j]=true)->aH P ts vs=true
 |[],[],_,_=>rfl
 |t::ts,v::vs,hl,h=>by rw[aH,jA7];exact⟨h 0 (by simp) (by simp),zFX (by simpa using hl) fun j h1 h2=>h (j+1) (by simpa using h1) (by simpa using h2)⟩
 |[],v::vs,hl,_=>by simp at hl
 |t::ts,[],hl,_=>by simp at hl
def zP9:K:=(Z (K.dops [(0,0,J 87 20 3),(1,0,D 88 13 0),(2,0,L 89 88 1),(3,1,kC 90 61 [(kt 89)]),(4,0,D 91 13 1),(5,0,L 92 91 1),(6,1,kC 93 61 [(kt 92)]),(7,0,kb 94 [kl,kl] [(0,1,(kt 90)),(1,1,(kt 93))]),(8,0,M 95 16),(9,0,kU 96 95),(10,2,D 97 96 3),(11,2004,L 98 97 1),(12,1004,S 8 87 3),(13,1004,S 9 94 2),(14,0,M 10 98)]) kr)
def qAW:K:=G [kO 4 0,kO 5 1,kZ 8 [ki,ki,kl],kZ 9 [kl,kl],kMi 10 0] (G [J 22 4 2,J 23 5 3,kC 24 70 [(kt 22),(kt 23)],M 21 24,kE 25 21 0,kE 26 21 1,kZ 11 kz0,S 11 25 31,M 12 26] (Z (G [M 27 12,kR 28 27,M 29 28,T 29 false (J 30 11 31),T 29 false (kC 31 101 [(kt 30)]),T 29 false (kR 32 31),kPt 33 29 32] (Y 33 (G [kb 34 [ki,ki,kl] [],kb 35 [kl,kl] [],S 8 34 3,S 9 35 2,kMi 10 6] kr) ks)) (Z (G [M 36 2,kN 37 36,D 38 11 8,L 39 38 1,kN 40 39,kQ 41 37 40 true] (Y 41 (G [kb 42 [ki,ki,kl] [],kb 43 [kl,kl] [],S 8 42 3,S 9 43 2,kMi 10 1] kr) ks)) (G [kZ 13 [kl,kl]] (G [⟨none,.mop (some 44) (.mk 3) []⟩,kZ 14 [(.map none)],S 14 44 1] (G [⟨none,.clo (some 45) 102 [] [(kt 13),(kt 14)]⟩,M 15 45] (G [J 46 4 2,M 47 3,M 48 15,kb 49 [kl,kl,ki,ki,.nilFunc] [(0,2,(kt 46)),(2,1,(kt 47)),(4,1,(kt 48))],kO 50 49,M 16 50] (G [⟨none,.mop (some 51) (.mk 3) []⟩,M 17 51] (Z (G [D 52 11 8,L 53 52 1,kN 54 53,kMi 55 0] (K.block 0 (K.loop (G [kB 56 55 54 .lss] (Z (Y 56 ks (K.exit 0)) (Z (K.block 1 (G [M 57 55,kX 58 53 55 11,J 59 58 11,kZ 19 kz5,M 18 57,S 19 59 11] (Z (Z (K.dops [(0,0,J 60 4 2),(1,0,D 61 19 4),(2,0,J 62 61 5),(3,0,M 63 2),(4,0,M 64 18),(5,0,kX 65 63 64 3),(6,0,J 66 65 3),(7,0,kC 67 77 [(kt 60),(kt 62),(kt 66)]),(8,0,kR 68 67)]) (Y 68 (G [kb 69 [ki,ki,kl] [],kb 70 [kl,kl] [],S 8 69 3,S 9 70 2,kMi 10 1] kr) ks)) (K.ops [M 71 16,D 72 19 4,J 73 72 5,M 74 17,kC 75 103 [(kt 71),(kt 73),(kt 74)]])))) (K.ops [kBi 76 55 1 .add,M 55 76]))))))) (G [M 77 16,J 78 11 31,
 M 79 2,kC 80 104 [(kt 77),(kt 78),(kt 79)],kZ 20 [ki,ki,kl],S 20 80 3] (Z (G [M 81 16,kU 82 81,D 83 82 3,L 84 83 1,kQi 85 84 0 true] (Y 85 (K.ops [kb 86 [ki,ki,kl] [],S 20 86 3]) ks)) (K.wk zP9))))))))))))
def qKT:Nat->Option wE:=fun|21=>k_ [0,0,0,1,0,0,1,0,0,0,2,2004,1004,1004,0]|_=>none
theorem qI7:kx f45 qKT qAW:=mz (by kernel_rfl)
theorem zFN(p:Prg)(d:Dfn)(v:Val)(y:A)(fuel fail:Int)(ds ns:wG)(h1:ds.length<=1000000)(h2:ns.length<=1000000) :
 wpK prog 0 zP9 (fin [RS.cell 8 3 true,RS.cell 9 2 true,RS.slot 10] (sM 0 (mU ⟨v,aP ds,aP ns,fail⟩) []))
  (jR [(8,.ptr 0 0),(9,.ptr 1 0),(13,.ptr 5 0),(16,.ptr 4 0),(20,.ptr 6 0)])
  [.box [int 0,int 0,.nil],.box [.nil,.nil],.box (zI p),.box (zQ d),.box (zI p++[int fuel,int fail,.clo 102 [] [.ptr 5 0,y]]),.box [.sl ds.length (zS ds),.sl ns.length (zS ns)],.box (z7 v)]:=by
 have hP:=eP p;unfold zP9;simp[hP,z7];refine b9 (zAj ds (jB1 h1 (by decide))) (by simp) (by simp) ?_;simp;refine b9 (zAj ns (jB1 h2 (by decide))) (by simp) (by simp) ?_;simp
 first
  |exact⟨by simp[cJ],by simp[cJ,rG],by simp[cJ,rG],zC 0 (by simp[mU,z7])⟩
  |exact zC 0 (by simp[mU,z7])
theorem zB4{d:Dfn}(h:eV d.kind=true):eU d=true:=by simp[eV]at h;simp[eU];omega
variable{p:Prg}{hs:wQ}
theorem zN6(hf:Fit p hs):zVH p:=fun d hd=>⟨(hf.slots d hd).2.1,(hf.slots d hd).2.2.2.1⟩
theorem zRJ(hf:Fit p hs)(id:Id)(vs:wI)(fuel:Int)(hfu:fuel<=90000)(hz:∀v∈vs,qU v<=256/\fJ v<=24) :
 my 45 [.agg (zI p),.agg (zX id),.sl vs.length (zT vs),int fuel] [] (mU (yW p id vs fuel)) []:=by
 have hP:=eP p;refine zJ func45 rfl qI7 (rs:=[.cell 8 3 true,.cell 9 2 true,.slot 10]) (by kernel_rfl) ?_;unfold qAW;simp[hP,zX];refine mu (s9 p id) (by simp[zI,zX,gN]) ?_;cases hd:qM p.defs id with
 |none =>
  rw[show yW p id vs fuel=⟨vz,[],[],6⟩ by simp[yW,hd]];simp[gN,hd,zQ];exact zC 0 (by simp[mU,z7,bA,yL,jM])
 |some d =>
 have hdm:=(y8 hd).1;obtain⟨s1,s6,_,snd,sty⟩:=hf.slots d hdm;simp[gN,hd,zQ];refine mu (uO d) (by simp[zQ]) ?_;cases hb:eV d.kind with
 |false =>
  rw[show yW p id vs fuel=⟨vz,[],[],6⟩ by simp[yW,hd,hb]];simp;exact zC 0 (by simp[mU,z7,bA,yL,jM])
 |true =>
 by_cases hl:vs.length=d.slots.length
 .have hfit:=fun i (hi:i<d.slots.length)=>zPg p d.slots[i].typ (vs[i]'(by omega)) (hz _ (jA0 _)).1 (hz _ (jA0 _)).2
  have hgo:∀s:XS,s.ns=[]->∀i (hi:i<d.slots.length),zAx p s 10 d.slots[i].typ:=fun s hs0 i hi=>zJI hf s hs0 (sty _ (jA0 hi)) 10 (by omega)
  have hrl:∀i,i<=d.slots.length->RL p (c7 p (d.slots.take i) []):=by
   intro i hi;induction i with
   |zero=>exact⟨by simp[c7],by simp[c7]⟩
   |succ i ih =>
    have:=uV (fun L (s:Slt)=>j3 p 10 s.typ L) [] (l:=d.slots) (i:=i) (by omega);unfold c7 at ih ⊢;rw[this];exact((hgo ⟨0,0,[],[]⟩ rfl i (by omega)) _ (ih (by omega))).1
  obtain⟨S,hS⟩:∃S:XS,S=⟨fuel,0,[],[]⟩:=⟨_,rfl⟩;have hS0:S.ns=[]:=by rw[hS]
  have hSf:S.fuel=fuel:=by rw[hS]
  have hSe:S.fail=0:=by rw[hS]
  simp[hl];intro hls;refine qH (S:=Nat) (fun i=>[(2,.sl vs.length (zT vs)),(4,.ptr 7 0),(8,.ptr 8 0),(9,.ptr 9 0),(10,int 0),(11,.ptr 10 0),(13,.ptr 1 0),(16,.ptr 0 0),(17,.map 6),(53,.sl d.slots.length (qW d.slots)),(54,int d.slots.length),(55,int i)])
   (fun i=>rS p S (c7 p (d.slots.take i) [])++[.box (zI p),.box [int 0,int 0,.nil],.box [.nil,.nil],.box (zQ d)]) (fun i=>i<=d.slots.length/\∀j (hj:j<i) (hj':j<d.slots.length),cD p d.slots[j].typ (vs[j]'(by omega))=true) (fun i=>d.slots.length-i) 0 ⟨by omega,fun j hj=>by omega⟩
   (((yI (l:=5) (o:=0) rfl rfl 32 3).trans (yI (l:=5) (o:=1) rfl rfl 32 3)).trans (mw [8,5,7,10,11,6,9,0,2,3,4] 0 (by rfl) (by simp[rS,tS,hP,hS,c7,ddL,zAX,zQ,hl]))) ?_
  rintro i ⟨hi,hft⟩;by_cases hil:i<d.slots.length
  .have hiv:i<vs.length:=by omega
   have hdr:=jN hil;have hdv:=j6 hiv;have hfi:=hfit i hil;obtain⟨_,hro⟩:=hgo S hS0 i hil _ (hrl i (by omega));have hst:=uV (fun L (s:Slt)=>j3 p 10 s.typ L) [] hil;change c7 p (d.slots.take (i+1)) []=j3 p 10 d.slots[i].typ (c7 p (d.slots.take i) [])at hst;generalize c7 p (d.slots.take i) []=L at hro hst ⊢;have hd0:ddL S.ns=[]:=by rw[hS0];rfl
   cases hfv:cD p d.slots[i].typ vs[i]with
   |false =>
    rw[hfv]at hfi;have hfl:aH p (d.slots.map Slt.typ) vs=false:=by
     cases hq:aH p (d.slots.map Slt.typ) vs with
     |false=>rfl
     |true =>
      have:=zBK hq i (by simpa using hil) hiv;rw[jB5,hfv]at this;cases this
    have hx:yW p id vs fuel=⟨vz,[],[],1⟩:=by simp[yW,hd,hb,hl,hfl]
    rw[hx];simp[rS,tS,hP,hSf,hSe,hd0,hil,hiv,hdr,hdv,aD];refine qB hfi (by simp[hP,zB,z7]) (by simp) ?_;simp;exact zC 0 (by simp[mU,z7,bA,yL,jM])
   |true =>
    rw[hfv]at hfi;simp[rS,tS,hP,hSf,hSe,hd0,hil,hiv,hdr,hdv,aD];refine qB hfi (by simp[hP,zB,z7]) (by simp) ?_;simp;refine mr hro [0,1,2,3,4,5,6] (by simp[rS,tS,hP,hSf,hSe,hd0,zB]) ?_;simp[rS,tS,hP,hSf,hSe,hd0];refine zN (i+1) ⟨hil,fun j hj hj'=>?_⟩ (by omega) (mw [0,1,2,3,4,5,6,7,8,9,10] 0 (by rfl) (by simp[rS,tS,hP,hSf,hSe,hd0,hst,zY hil hls]));by_cases hji:j=i
    .subst hji;exact hfv
    .exact hft j (by omega) hj'
  .have hie:i=d.slots.length:=by omega
   subst hie;have hfl:aH p (d.slots.map Slt.typ) vs=true:=zFX (by simpa using hl) fun j h1 h2=>by rw[jB5];exact hft j (by simpa using h1) (by simpa using h1)
   have hx:yW p id vs fuel=zI8 (nI p d vs fuel):=by simp[yW,hd,hb,hl,hfl]
   rw[hx];have htk:d.slots.take d.slots.length=d.slots:=jB2;have hL8:=(hrl d.slots.length (jA _)).len hf;rw[htk]at hL8 ⊢;have hty:TyL p (d.slots.map Slt.typ) vs:=TyL.of (by simpa using hl) fun j hj=>by rw[jB5];exact zSP hf (sty _ (jA0 _)) _ (hft j (by omega) (by omega))
   have hbB:eU d=true:=zB4 hb;have hBd:Bd 100000 fuel.toNat ⟨fuel,0,c7 p d.slots [],[]⟩:=⟨by simp;omega,by simp only;omega,by simp only;omega,fun _=>by simp only;omega⟩;have hIh:=zKm (c:=100000) hf.bods (zN6 hf) (by omega) fuel.toNat;have hbo:=zMw hIh (by omega) d vs (fun _=>hl) snd s6 (fun _ _=>⟨_,_,hf.bods _ d hd hbB,EnvT.args hty fun v hv=>(hz v hv).1,zM6 snd vs hl⟩) hBd;have hrB:=zD9 hIh.bd d vs _ hBd;change my 104 _ _ (.agg (z7 (nI p d vs fuel).1)) (tS p (nI p d vs fuel).2)at hbo;change Bd 100000 fuel.toNat (nI p d vs fuel).2 at hrB;generalize nI p d vs fuel=r at *
   obtain⟨v,s⟩:=r;simp only at *
   have hd0:ddL S.ns=[]:=by rw[hS0];rfl
   have r1:=hrB.ds;have r2:=hrB.ns;have r3:=zHf s.ns;generalize c7 p d.slots []=L at *
   simp[rS,tS,hP,hSf,hSe,hd0,zQ];refine mr hbo [0,1,2,3,4,5] (by simp[tS,hP,ddL,zAX,zQ]) ?_;simp[tS,hP,z7];by_cases h0:s.fail=0
   .have he:zI8 (v,s)=⟨v,aP s.ds,aP (ddL s.ns),s.fail⟩:=by rw[zNj];simp[zI8,h0]
    rw[he];simp[h0];have hr:=zFN p d v (.rptr [.any]) s.fuel s.fail s.ds (ddL s.ns) (by omega) (by omega);rw[h0]at hr;exact⟨_,_,mw [8,9,7,10,0,1,11] 1 (by rfl) (by simp[hP,zQ,z7]),hr⟩
   .have he:zI8 (v,s)=⟨vz,aP s.ds,aP (ddL s.ns),s.fail⟩:=by rw[zNj];simp[zI8,h0]
    rw[he];simp[h0];exact⟨_,_,mw [8,9,7,10,0,1,11] 1 (by rfl) (by simp[hP,zQ,z7,bA,yL,jM]),zFN p d vz (.rptr [.any]) s.fuel s.fail s.ds (ddL s.ns) (by omega) (by omega)⟩
 .rw[show yW p id vs fuel=⟨vz,[],[],1⟩ by simp[yW,hd,hb,hl]];have hl':¬((vs.length:Int)=d.slots.length):=by omega
  simp[hl']
  intros
  exact zC 0 (by simp[mU,z7,bA,yL,jM])
def uS(p:Prg)(F:Int)(s:XS):St:=[.box (zI p++[int F,int (F-s.fuel),int s.fail])]
@[simp]theorem qKp:zA prog 226=true:=by kernel_rfl
section
variable{p:Prg}{F:Int}{c:Nat}{m:Int}{ev:Evl}{e:Exp}{V:wP}{s:XS}
@[simp]theorem qKi:zA prog 233=true:=by kernel_rfl
end
section
variable{p:Prg}{c:Nat}{m:Int}{ev:Evl}{e:Exp}{V:wP}{s:XS}
@[simp]theorem qK7:zA prog 210=true:=by kernel_rfl
section
variable{A:wI×XS}(hA:my 228 [.ptr 0 0,.sl e.kids.length (qS e.kids),.sl V.length (iZ V)] (xS p s) (.sl A.1.length (zT A.1)) (xS p A.2))
include hA
end
end
theorem zTt(hf:Fit p hs){r:Nat}{t:Typ}(ht:TyOk hs r t){x:Id}:Nam t x->x∈p.defs.map Dfn.id:=by
 induction ht with
 |int r=>intro hx;cases hx with
  |here _ h=>simp at h
  |kid _ k x h=>simp at h
 |bool r=>intro hx;cases hx with
  |here _ h=>simp at h
  |kid _ k x h=>simp at h
 |list r t h ih=>intro hx;cases hx with
  |here _ h=>simp at h
  |kid _ k x h hx' =>
   simp only[Typ.kids_mk,jAk]at h;subst h;exact ih hx'
 |dfn r k h h1 h2 h3 h4 ih=>intro hx;cases hx with
  |here _ h' =>
   obtain⟨d,hd,_⟩:=hf.hd k h;obtain⟨a,b⟩:=y8 hd;exact jAf.2 ⟨d,a,b⟩
  |kid _ k x h=>simp at h
structure RS(p:Prg)(L:List Id):Prop where
 ss:SS L
 sub:∀x∈L,x∈p.defs.map Dfn.id
theorem RS.len(hf:Fit p hs){L:wG}(h:RS p L):L.length<=100:=by
 have hn:L.Nodup:=by have:=h.ss;unfold SS at this;exact this.imp fun {a b} hab e=>by subst e;simp[bJ]at hab
 have:=hn.length_le_of_subset (l₂:=p.defs.map Dfn.id) h.sub;have:=hf.len8;simp at *
 omega
theorem RS.nam(hf:Fit p hs){L:wG}(h:RS p L){r:Nat}{t:Typ}(ht:TyOk hs r t):RS p (zJu t L) :=
 ⟨zMN t L h.ss,fun x hx=>by
  rcases (zJv t L x).1 hx with hx|hx
  .exact h.sub x hx
  .exact zTt hf ht hx⟩
theorem RS.fold{p:Prg} {α:Type}(g : α->List Id->wG):∀(l:List α) (L:wG),(∀a∈l,∀L,RS p L->RS p (g a L))->RS p L->RS p (l.foldl (fun L a=>g a L) L)
 |[],L,_,h=>h
 |a::l,L,hg,h=>by rw[jAt];exact RS.fold g l _ (fun b hb=>hg b (by simp[hb])) (hg a (by simp) L h)
section
variable{p:Prg}{F m:Int}{ev:Evl}{B:wJ}{e:Exp}{V:wP}{v:Val}{s:XS}
@[simp]theorem zYM{U:St}:m9 2 U = []:=rfl
end
def zVA:K:=G [kMn 2] (Z (G [M 3 0,⟨none,.isn (some 4) false (kt 3)⟩] (Y 4 (G [kMn 2] kr) ks)) (G [kd 5 84 3 0 [] [],M 6 0,kP 7 84 3 40 5 6,M 2 7] kr))
theorem qBD:ky f140 zVA:=m_ (by kernel_rfl)
def qBa:K:=G [kO 1 0,⟨none,.mov (some 2) (.const .nilFunc)⟩] (G [⟨none,.clo (some 3) 139 [] [(kt 1)]⟩,M 2 3] kr)
theorem qIB:ky f74 qBa:=m_ (by kernel_rfl)
def zVD:K:=G [kO 2 0] (Z (G [L 6 1 1,kN 7 6,kQi 8 7 0 false] (Y 8 (G [L 9 2 1,⟨none,.call (some 10) (kt 9) [(.const kl)]⟩] kr) ks)) (G [L 11 1 1,L 12 1 1,kN 13 12,kBi 14 13 1 .sub,⟨none,.slc (some 15) (kt 11) 1 none (some (kt 14)) none⟩,kC 16 74 [(kt 15)]] (K.block 0 (K.rng (kt 16) [17] (K.ops [M 3 17]) (K.block 1 (G [L 18 1 1,L 19 1 1,kN 20 19,kBi 21 20 1 .sub,kX 22 18 21 1,L 23 22 1,kN 24 23,kMi 25 0] (K.block 2 (K.loop (G [kB 26 25 24 .lss] (Z (Y 26 ks (K.exit 2)) (Z (K.block 3 (G [kX 27 23 25 3,J 28 27 3,kZ 5 [ki,ki,kl],S 5 28 3] (Z (K.dops [(0,1,L 29 2 1),(1,0,M 30 3),(3,1,J 32 5 3),(4,0,kd 33 84 3 1 [ki,ki,kl] [(0,3,(kt 32))]),(2,3,kC 31 140 [(kt 30)]),(5,0,kP 34 84 3 40 31 33),(6,4,⟨none,.call (some 35) (kt 29) [(kt 34)]⟩),(7,0,kR 36 35)]) (Y 36 kr ks)))) (K.ops [kBi 37 25 1 .add,M 25 37]))))))))))))
def qKW:Nat->Option wE:=fun|8=>some [(0,1),(1,0),(3,1),(4,0),(2,3),(5,0),(6,4),(7,0)]|_=>none
theorem qBY:kx f139 qKW zVD:=mz (by kernel_rfl)
@[simp]theorem zGX:zA prog 139=true:=by kernel_rfl
def qAz:K:=G [kO 2 0,kMn 4] (Z (G [M 6 1] (K.block 0 (K.rng (kt 6) [7] (K.ops [M 5 7]) (K.block 1 (K.ops [L 8 2 1,M 9 5,kd 10 82 1 1 [kl] [(0,1,(kt 9))],kP 11 82 1 24 8 10,S 2 11 1]))))) (G [L 12 2 1,M 4 12] kr))
theorem qIa:ky f138 qAz:=m_ (by kernel_rfl)
def qA3:K:=G [kMn 2] (G [M 3 0,kC 4 138 [(.const kl),(kt 3)],M 2 4] kr)
theorem qIe:ky f73 qA3:=m_ (by kernel_rfl)
mutual
theorem zN4:∀(v:Val) (k:Nat),(vM v).bnd k=true
 | .mk a n l,k=>by simp only[vM,A.bnd];exact xD l k
theorem xD:∀(l:wI) (k:Nat),bY k (zT l)=true
 |[],k=>by simp
 |v::l,k=>by have h:=zN4 v k;rw[zIv]at h;simp only[A.bnd]at h;simp[h,xD l k]
end
attribute [simp] xD
def qX(l:List wI):wF:=l.map fun vs=>.sl vs.length (zT vs)
@[simp]theorem zKM(l:List wI):(qX l).length=l.length:=by simp[qX]
@[simp]theorem zW8:qX []=[]:=rfl
@[simp]theorem zUK(v:wI)(l:List wI):qX (v::l)=.sl v.length (zT v)::qX l:=rfl
@[simp]theorem oG(a b:List wI):qX (a++b)=qX a++qX b:=by simp[qX]
theorem pU:∀(l:List wI),qT (qX l)
 |[]=>qT.nil
 |v::l=>qT.sl (dL v) (pU l)
@[simp]theorem zVp(l:List wI):jE (qX l)=qX l:=(pU l).1
@[simp]theorem zZW{rf g}(l:List wI):vwL rf g (qX l)=qX l:=(pU l).2 _ _
@[simp]theorem zK9:∀(l:List wI) (k:Nat),bY k (qX l)=true
 |[],k=>by simp
 |v::l,k=>by simp[zK9 l k]
variable{l:List wI}
theorem zIz{i:Nat}(h:i<l.length):(qX l).drop i=.sl l[i].length (zT l[i])::qX (l.drop (i+1)):=by rw[qX,<-List.map_drop,jBb h];rfl
theorem zNH:my 140 [.nil] [] .nil []:=by refine zG func140 rfl qBD (rs:=[.slot 2]) (by kernel_rfl) ?_;unfold zVA;simp;exact zC 0 (by simp)
theorem zQj(l:wI)(h:l≠[])(hb:l.length*40<=140737488355328)(hm:l.length<=maxLen):my 140 [.sl l.length (zT l)] [] (.row 0 l.length) [.row false 84 3 l.length (zT l)]:=by refine zG func140 rfl qBD (rs:=[.slot 2]) (by kernel_rfl) ?_;unfold zVA;simp[h];refine⟨⟨hm,hb⟩,?_⟩;exact mv [0] 0 (by rfl) (by simp)
theorem vF(l:List wI):my 74 [.sl l.length (qX l)] [] (.clo 139 [] [.rptr [.sl l.length (qX l)]]) []:=by refine zG func74 rfl qIB (rs:=[.slot 2]) (by kernel_rfl) ?_;unfold qBa;simp;exact zC 1 (by simp)
def fT(l:wI):A:=if l=[]then .nil else .sl l.length (zT l)
@[simp]theorem zRK:fT []=.nil:=rfl
theorem zGK{l:wI}(h:l≠[]):fT l=.sl l.length (zT l):=by simp[fT,h]
@[simp]theorem qB8(l:wI)(k:Nat):(fT l).bnd k=true:=by unfold fT;split<;>simp
@[simp]theorem zSy(l:wI):cellsOf (fT l)=some [fT l]:=by unfold fT;split<;>simp
@[simp]theorem qH5{rf g}(l:wI):vw rf g (fT l)=fT l:=by unfold fT;split<;>simp
@[simp]theorem zZo(l:wI):nrm0 (fT l)=.sl l.length (zT l):=by unfold fT;split<;>simp_all
def dU(acc:List wI)(last:wI):List wI:=acc.flatMap fun h=>last.map fun x=>h++[x]
def yB(l:List wI):List wI:=l.foldl dU [[]]
@[simp]theorem zOL:yB []=[[]]:=rfl
theorem zAd(l:List wI)(last:wI):yB (l++[last])=dU (yB l) last:=by simp[yB]
theorem zG3:∀(l:List wI) (acc:List wI) (n:Nat),(∀t∈acc,t.length=n)->∀t∈l.foldl dU acc,t.length=n+l.length
 |[],acc,n,h,t,ht=>by simpa using h t ht
 |a::l,acc,n,h,t,ht=>by
  have:=zG3 l (dU acc a) (n+1) (fun s hs=>by simp only[dU,List.mem_flatMap,jAf]at hs;obtain⟨u,hu,x,_,rfl⟩:=hs;simp[h u hu]) t ht
  simp only[jAb];omega
theorem zOK{t:wI}(h:t∈yB l):t.length=l.length:=by have:=zG3 l [[]] 0 (by simp) t h;omega
theorem gY(acc:List wI)(last:wI):(dU acc last).length=acc.length*last.length:=by
 induction acc with
 |nil=>simp[dU]
 |cons a acc ih =>
  have e:dU (a::acc) last=last.map (fun x=>a++[x])++dU acc last:=by simp[dU]
  rw[e];simp[ih,jBo,jCh]
theorem zOZ{acc:List wI}{last:wI}{i j:Nat}(hi:i<acc.length)(hj:j<last.length):(dU acc last)[i*last.length+j]?=some (acc[i]++[last[j]]):=by
 induction acc generalizing i with
 |nil=>simp at hi
 |cons a acc ih =>
  have e:dU (a::acc) last=last.map (fun x=>a++[x])++dU acc last:=by simp[dU]
  rw[e];cases i with
  |zero=>rw[jAo (by simpa using hj)];simp[hj]
  |succ i =>
   have hi':i<acc.length:=by simpa using hi
   rw[jB8 (by simp[jBo])];have:(i+1)*last.length+j-(last.map fun x=>a++[x]).length=i*last.length+j:=by simp[jBo];omega
   rw[this,ih hi'];rfl
theorem zHw:∀(n:Nat) (l:List wI),l.length=n->n<=1000000->zHX prog 139 [] [.rptr [.sl l.length (qX l)]] ((yB l).map fun t=>[fT t]):=by
 intro n;induction n with
 |zero =>
  intro l hl _;have hl0:l=[]:=jBt hl;subst hl0;refine zCJ fun b m T hT hY=>?_
  simp only[zOL,jAc,jBk,jAb,jB4,zRK]at hT hY ⊢;have h0:=hT 0 (by simp);have h1:=hT 1 (by simp);refine zJ func139 rfl qBY (rs:=[]) (by kernel_rfl) ?_;unfold zVD;simp[h0.1,tK h0.1];refine zFM h0 h1 (hY 0 (by simp)) (by simp) ?_;simp;exact zNe h1 (by simp)
 |succ n ih =>
  intro l hl hn;obtain⟨l',last,rfl⟩:∃l' last,l=l'++[last]:=⟨l.dropLast,l.getLast (by intro h;simp[h]at hl),by rw[List.dropLast_concat_getLast]⟩;have hl':l'.length=n:=by simpa using hl
  refine zCJ fun b m T hT hY=>?_
  have hXl:((yB (l'++[last])).map fun t=>[fT t]).length=(yB l').length*last.length:=by rw[jAa,zAd,gY]
  rw[hXl]at hT ⊢;have h0:=hT 0 (jB _);refine zJ func139 rfl qBY (rs:=[]) (by kernel_rfl) ?_;unfold zVD;have hw:IntKind.i64.wrap (l'.length:Int)=l'.length:=zSa (by simp[maxLen];omega);have hne:¬((l'.length:Int)+1=0):=by omega
  simp[h0.1,tK h0.1,hw,hne];intro hmx;refine⟨by omega,?_⟩;refine mu (vF l') (by simp) ?_;simp;have hCl:∀j,j<=(yB l').length*last.length->Cl (m+1) (T j++[.box [yv b]]):=fun j hj=>(hT j hj).app rfl (by simp)
  have hbd:∀i,i<=(yB l').length->i*last.length<=(yB l').length*last.length:=fun i hi=>jBj _ hi
  refine⟨[(1,.rptr [.sl (l'.length+1) (qX l'++[.sl last.length (zT last)])]),(2,.ptr m 0),(16,.clo 139 [] [.rptr [.sl l'.length (qX l')]])],m+1,(yB l').map (fun t=>[fT t]),fun j=>T (j*last.length)++[.box [yv b]],139,[],
   [.rptr [.sl l'.length (qX l')]],by simp,zGX,ih l' hl' (by omega),?_,by omega,?_,by simp,by simp,?_,?_⟩
  .simp only[Nat.zero_mul];exact xL (τ:=[]) (by simp) (by simp[h0.1]) (by simp) (by simp[h0.1]) (by rw[(hCl 0 (jB _)).1];exact(hCl 0 (jB _)).2)
  .intro i hi;exact hCl _ (hbd i (by simpa using hi))
  .intro i hi b' M r r';simp only[jAa]at hi;have hd:(qX l'++[A.sl last.length (zT last)]).drop l'.length=[A.sl last.length (zT last)]:=by rw[<-zKM l'];simp
   simp[hw,hd];intro _;refine⟨by omega,?_⟩;intro hlm;have hCl2:∀j r,i*last.length+j<=(yB l').length*last.length->Cl (m+2) (T (i*last.length+j)++[.box [yv b],AObj.lp b' r M
    [(1,A.rptr [A.sl (l'.length+1) (qX l'++[A.sl last.length (zT last)])]),(2,A.ptr m 0),
     (16,A.clo 139 [] [A.rptr [A.sl l'.length (qX l')]])]]):=fun j r hj=>(hT _ hj).app rfl (by simp)
   have hij:∀j,j<=last.length->i*last.length+j<=(yB l').length*last.length:=fun j hj=>by have:=jBj last.length (Nat.succ_le_of_lt hi);rw[jBo]at this;omega
   have hTi:(T (i*last.length)).length=m:=(hT _ (hij 0 (jB _))).1;refine qH (S:=Nat) (fun j=>[(2,.ptr m 0),(3,fT (yB l')[i]),(23,.sl last.length (zT last)),(24,int last.length),(25,int j)]) (fun j=>T (i*last.length+j)++[.box [yv b],AObj.lp b' r' M
    [(1,A.rptr [A.sl (l'.length+1) (qX l'++[A.sl last.length (zT last)])]),(2,A.ptr m 0),
     (16,A.clo 139 [] [A.rptr [A.sl l'.length (qX l')]])]]) (fun j=>j<=last.length) (fun j=>last.length-j) 0 (by simp)
    (xL (τ:=[]) (by simp) (by simp[hTi]) (by simp) (by simp[hTi]) (by rw[(hCl2 0 r' (hij 0 (jB _))).1];exact(hCl2 0 r' (hij 0 (jB _))).2)) ?_
   intro j hj;simp;refine jY (fun h=>?_) (fun h=>?_)<;>simp at h
   .have hTj:=hT _ (hij j hj);simp[h,j6 h,hTj.1,tK hTj.1,zDo hTj.1,zDt hTj.1,zER hTj.1,zGT];have hgl:i*last.length+j<(dU (yB l') last).length:=by rw[gY];have:=hij (j+1) h;omega
    have hge:(dU (yB l') last)[i*last.length+j]=(yB l')[i]++[last[j]]:=by
     have:=zOZ hi h;rw[jA2 hgl]at this
     simpa using this
    have hTj1:=hT (i*last.length+(j+1)) (hij (j+1) h);have hyj:iB prog b [.sl ((yB l')[i].length+1) (zT ((yB l')[i]++[last[j]]))] (T (i*last.length+j)) fun o τ=>o=.ret (.lit (.bool true))/\τ = T (i*last.length+(j+1)):=by
     have:=hY (i*last.length+j) (by simpa[zAd]using hgl);simp only[zAd,jB5,hge]at this;rw[zGK (by simp)]at this
     simpa[jB9]using this
    have hlen:(yB l')[i].length=n:=by rw[zOK (jA0 hi),hl']
    by_cases hh:(yB l')[i]=[]
    .refine zDj zNH (by simp[hh]) ?_;simp[hTj.1,tK hTj.1,zDo hTj.1,zDt hTj.1,zER hTj.1];refine⟨by simp[maxLen],?_⟩;simp only[hh,jB4,jAx,jBp,sU,zDE]at hyj;refine exY (k:=3) rfl hTj hTj1 (by simp) hyj ?_;simp;refine zN (j+1) h (by omega) (xL (τ:=[.box (z7 last[j]),.row true 84 3 1 (z7 last[j])]) (by simp[z7]) (by simp[hTj1.1]) (by simp[hh,zY h hlm]) (by simp[hTj1.1]) (by rw[(hCl2 (j+1) r' (hij (j+1) h)).1];exact(hCl2 (j+1) r' (hij (j+1) h)).2))
    .refine zDj (zQj _ hh (by omega) (by simp[maxLen];omega)) (by simp[zGK hh]) ?_;simp[hTj.1,tK hTj.1,zDo hTj.1,zDt hTj.1,zER hTj.1];refine⟨by simp[maxLen];omega,?_⟩;simp only[dV,sU,zDE]at hyj;refine exY (k:=3) rfl hTj hTj1 (by simp) hyj ?_;simp;refine zN (j+1) h (by omega) (xL (τ:=[.box (z7 last[j]),.row true 84 3 ((yB l')[i].length+1) (zT (yB l')[i]++z7 last[j])]) (by simp[z7]) (by simp[hTj1.1]) (by simp[zY h hlm]) (by simp[hTj1.1]) (by rw[(hCl2 (j+1) r' (hij (j+1) h)).1];exact(hCl2 (j+1) r' (hij (j+1) h)).2))
   .have:j=last.length:=by omega
    subst this;simp;exact Wk.here (by rw[jBo])
  .simp;exact zNe (hT _ (jA _)) (by simp)
theorem zFH:∀{cs:wF} {k:Nat} (n:Nat),bY k cs=true->bY k (cs.take n)=true
 |[],_,_,_=>by simp
 |c::cs,k,0,_=>rfl
 |c::cs,k,n+1,h=>by simp only[bY,jA7]at h;simp[h.1,zFH n h.2]
theorem zGy:∀(X:List wI),jE (X.map fT)=qX X
 |[]=>by simp
 |t::X=>by simp[zGy X]
@[simp]theorem zPU:∀(X:List wI) (k:Nat),bY k (X.map fT)=true
 |[],k=>rfl
 |t::X,k=>by simp[zPU X k]
@[simp]theorem zTN{rf g}:∀(X:List wI),vwL rf g (X.map fT)=X.map fT
 |[]=>by simp
 |t::X=>by simp[zTN X]
theorem zGS(g:FuncId)(first cap:wF)(hg:zA prog g=true)(hf:bY 0 first=true)(hcp:bY 0 cap=true)(X:List wI)(hX:zHX prog g first cap (X.map fun t=>[fT t]))(hm:X.length<=maxLen)(hb:X.length*24<=140737488355328) :
 my 138 [.nil,.clo g first cap] [] (.row 0 X.length) [.row false 82 1 X.length (qX X)]:=by
 have hf':∀k,bY k first=true:=fun k=>b6 (jB k) _ hf
 have hc':∀k,bY k cap=true:=fun k=>b6 (jB k) _ hcp
 refine zG func138 rfl qIa (rs:=[.slot 4]) (by kernel_rfl) ?_;unfold qAz;simp;refine⟨[(2,.ptr 0 0),(6,.clo g first cap)],2,X.map (fun t=>[fT t]),fun j=>[.box [.row 1 j],.row false 82 1 j ((X.map fT).take j)],g,first,cap,by simp,hg,hX,?_,by omega,?_,by simp[hf',hc'],by simp,?_,?_⟩
 .exact(yI (l:=0) (o:=0) rfl rfl 82 1).trans (xL (τ:=[]) (by simp) (by simp) (by simp) (by simp[hf',hc']) (by simp))
 .intro i hi;simp[zFH]
 .intro i hi b' M r r';simp only[jAa]at hi;have htk:(X.map fT).take (i+1)=(X.map fT).take i++[fT X[i]]:=by rw[jA8 (by simpa using hi)];simp
  simp;exact⟨⟨by omega,by omega⟩,Wk.here (by rw[htk])⟩
 .have htk:(X.map fT).take X.length=X.map fT:=jAh (by simp);simp[htk];exact mv [1] 0 (by rfl) (by simp[zGy])
theorem zKP(g:FuncId)(first cap:wF)(hg:zA prog g=true)(hf:bY 0 first=true)(hcp:bY 0 cap=true)(X:List wI)(hX:zHX prog g first cap (X.map fun t=>[fT t]))(hm:X.length<=maxLen)(hb:X.length*24<=140737488355328) :
 my 73 [.clo g first cap] [] (.row 0 X.length) [.row false 82 1 X.length (qX X)]:=by
 refine zG func73 rfl qIe (rs:=[.slot 2]) (by kernel_rfl) ?_;unfold qA3;simp;refine zR (zGS g first cap hg hf hcp X hX hm hb) [] (by simp) (by simp) ⟨.inl (by simp),.inl (zCq (k:=0) (fun l hl=>by omega) (.clo g first cap) (by simp[hf,hcp])).symm,trivial⟩ ?_;simp;exact mv [0] 0 (by rfl) (by simp)
end Go.Proofs.YtolkhapmieigcaaGreatDoor
