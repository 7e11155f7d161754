/-
  The maker's matches.
  The zero value of a type, by the reference.
  The maker's fields and calls.
-/
import Derived.Test.YthglhccibdlccaaGreatDoorX30
set_option linter.unusedVariables false
set_option linter.unusedSimpArgs false
namespace Go.Proofs.YthglhccibdlccaaGreatDoor
open Go.Abs
def qA2:K:=G [kO 6 1,kZ 10 kz1] (G [M 16 0,M 17 3,kC 18 118 [(kt 16),(kc 1),(kt 17)],M 11 18] (Z (G [M 19 11,kBi 20 19 0 .lss] (Y 20 (G [M 21 0,J 22 6 5,M 23 2,M 24 3,M 25 4,kC 26 86 [(kt 21),(kt 22),(kt 23),(kt 24),(kt 25)],S 10 26 15] kr) ks)) (G [M 27 0,kU 28 27,D 29 28 0,D 30 29 1,L 31 30 1,M 32 11,kX 33 31 32 31,J 34 33 31,kZ 12 kz0,S 12 34 31] (G [M 35 0,D 36 12 0,J 37 36 3,kC 38 72 [(kt 37)],M 39 2,M 40 4,kBi 41 40 2 .sub,kC 42 34 [(kt 35),(kt 38),(kt 39),(kt 41)],⟨none,.brow (some 43) 37 15 1 kz1 [(0,15,(kt 42))]⟩,M 13 43] (G [M 44 0,kC 45 80 [(kt 44),(kc 10),(kc 0),(.const kl)],kZ 14 kz1,S 14 45 15] (G [D 46 12 0,J 47 46 3,D 48 14 5,S 48 47 3] (Z (G [kMi 15 0] (K.block 0 (K.loop (Z (G [M 49 15,D 50 12 8,L 51 50 1,kN 52 51,kB 53 49 52 .lss] (Y 53 ks (K.exit 0))) (Z (K.block 1 (Z (K.dops [(0,0,M 56 13),(1,0,M 57 0),(2,0,J 58 6 5),(3,0,M 59 2),(4,0,D 60 14 0),(5,0,J 61 60 3),(6,0,M 62 15),(7,0,D 63 12 8),(8,0,L 64 63 1),(9,0,M 65 15),(10,0,kX 66 64 65 11),(11,0,D 67 66 4),(12,0,J 68 67 5),(13,0,kb 69 kz7 [(0,3,(kt 61)),(3,1,(kt 62)),(4,5,(kt 68))]),(14,0,kC 70 82 [(kt 59),(kt 69)]),(15,0,M 71 4),(16,0,kBi 72 71 1 .sub),(17,4,kC 73 34 [(kt 57),(kt 58),(kt 70),(kt 72)]),(18,0,kd 74 37 15 1 kz1 [(0,15,(kt 73))]),(19,0,kP 75 37 15 168 56 74),(20,0,M 13 75)]) (K.dops [(0,2,D 76 14 14),(1,2002,L 77 76 1),(2,0,M 78 0),(3,1002,kC 79 81 [(kt 78)]),(4,0,⟨none,.bslice (some 80) 9 1 1 [(.string ⟨#[]⟩)] [(0,1,(kt 79))]⟩),(5,0,kP 81 9 1 16 77 80),(6,2,D 82 14 14),(7,0,
 S 82 81 1)]))) (K.ops [M 54 15,kBi 55 54 1 .add,M 15 55])))))) (Z (K.wk (K.ops [M 83 13,D 84 14 13,S 84 83 1])) (G [J 85 14 15,S 10 85 15] kr)))))))))
def qO1:Nat→Option (List (Nat×Nat)):=fun r=>match r with | 11=>some [(0,0),(1,0),(2,0),(3,0),(4,0),(5,0),(6,0),(7,0),(8,0),(9,0),(10,0),(11,0),(12,0),(13,0),(14,0),(15,0),(16,0),(17,4),(18,0),(19,0),(20,0)] | 12=>some [(0,2),(1,2002),(2,0),(3,1002),(4,0),(5,0),(6,2),(7,0)] | _=>none
theorem qGA:qC Tryz.prog Tryz.f83.ntmps qO1 (Tryz.f83.body.getD .skip)=some qA2.erase:=by kernel_rfl
@[simp] theorem qNk:zA Tryz.prog 83=true:=by kernel_rfl
abbrev zPY:FuncId:=83
theorem zV7 (m:Mk)(kind n:Int)(h0:0≤m.temp)(h1:m.temp≤1000000000000000)(h2 : -1000000000000000≤m.left)(h3:m.left≤1000000000000000) :
 Ret Tryz.prog 80 [.ptr 0 0,int kind,int n,.sl 0 []] (mkS m) (.agg [int 0,int 0,int m.temp,int kind,int n,int 0,int 0,int 0,int 0,int 0,int 0,int 0,.nil,.sl 0 [],.nil]) (mkS {m with temp:=m.temp+1,left:=m.left-1}):=by
 refine zK Tryz.func80 rfl zZs (rs:=[.cell 8 15 true]) (by kernel_rfl) ?_;unfold zTr;have w1:IntKind.i64.wrap (m.temp+1)=m.temp+1:=IntWalk.i64_in _ (by omega);have w2:IntKind.i64.wrap m.temp=m.temp:=IntWalk.i64_in _ (by omega);have w3:IntKind.i64.wrap (m.left-1)=m.left-1:=IntWalk.i64_in _ (by omega);simp[mkS,mkB,w1,w2,w3];exact zG [0,1] 0 (by decide) (by simp) (by simp) (by simp)
def zQt (hd:Hd)(j:Nat):Typ:=match hd.slots[j]? with
 | some s=>s.typ
 | none=>jK
theorem zR2 {hd:Hd}{j:Nat}(h:j<hd.slots.length):zQt hd j=hd.slots[j].typ:=by unfold zQt; rw[List.getElem?_eq_getElem h]
theorem zYt {hs:List Hd}{R:Nat}{hd:Hd}(h:∀s∈hd.slots,TyOk hs R s.typ)(j:Nat):TyOk hs R (zQt hd j):=by
 unfold zQt;split
 ·rename_i s hs;exact h s (List.mem_of_getElem? hs)
 ·exact .int _
set_option maxHeartbeats 4000000 in
theorem zOo {hs:List Hd}{R:Nat}{m:Mk}{env:List Bnd}{c depth:Int}{len:Nat}(hc:0≤c)(hl:Lim m (7*c+7))(x:Nat)(hx1:x≤65536)(hk:zBd hs R c (depth-1) (fun r=>r≤R) len)(hk2:zBd hs R c (depth-2) (fun r=>r≤R) len)
 (hx:Cx hs R m)(he:EnvOk hs R m.temp env)(h1:0<env.length)(h2:env.length+1≤len)(h3:env.length≤1000)(hd1 : -1000≤depth)(hd2:depth≤1000)(t:Typ)(ht:TyOk hs R t)
 (hop:zA5 hs m.own opF m [.ptr 0 0,.agg (zB t),.sl env.length (zQ env),int x,int depth] env t (7*c+7)) :
 zA5 hs m.own zPY m [.ptr 0 0,.agg (zB t),.sl env.length (zQ env),int x,int depth] env t (7*c+7):=by
 have hdl:=hx.dlen;have hd100:=hx.len;have hd0:=hx.len0;have wd:IntKind.i64.wrap (depth-1)=depth-1:=IntWalk.i64_in _ (by omega);have wd2:IntKind.i64.wrap (depth-2)=depth-2:=IntWalk.i64_in _ (by omega);rcases zYa m 1 x with hof | ⟨k,hkm,hof,hkind,hvis⟩
 ·obtain⟨e,m',g1,g2⟩:=hop;refine⟨e,m',?_,g2⟩;refine zH Tryz.func83 rfl qGA (rs:=[.cell 10 15 true]) (by kernel_rfl) ?_;unfold qA2;simp[mkS,mkB,zB];refine zN (zVE m 1 x (by omega) (by omega) (by omega) hx.mods) [0,1] (by decide) (by simp[mkS,mkB]) (by simp) ?_;simp[mkS,mkB,hof];refine zN g1 [0,1] (by decide) (by simp[mkS,mkB]) (by simp[zB]) ?_;simp[mkS,mkB];exact zG [0,1] 0 (by decide) (by simp) (by simp) (by simp[zF])
 ·have hks:k<hs.length:=by omega
  have hget:=hx.get hkm;generalize hD:m.defs[k]=D at hget hkind;have eid:hs[k].id=D.id:=by rw[hget]; rfl
  have eslots:hs[k].slots=D.slots:=by rw[hget]; rfl
  have ekind:hs[k].kind=1:=by rw[hget]; exact hkind
  obtain⟨hs6,hsT⟩:=hx.slots k hks;have hDl:D.slots.length≤6:=by rw[←eslots]; exact hs6
  obtain⟨a,m1,g1,g2,g3,g4,g5⟩:=hk2 m R (zBm hs[k].id) env hx (hl.mono (by omega)) (hx.typs k hks (.inr ekind)) (Nat.le_refl _) he h1 (by omega);have hl1:Lim m1 (6*c+7):=Lim.adv (c:=c) (hl.mono (by omega)) g2;obtain⟨l1,l2,l3,l4,l5,l6,l7,l8⟩:=hl1;obtain⟨mA,hmA⟩:∃mA:Mk,mA={m1 with temp:=m1.temp+1,left:=m1.left-1}:=⟨_,rfl⟩;have aA:Adv m1 mA 1:=hmA▸yR m1;have tA:mA.temp=m1.temp+1:=by rw[hmA]
  have hlA:Lim mA (6*c+6):=Lim.adv (c:=1) ⟨l1,by omega,l3,by omega,by omega,l6,l7,by omega⟩ aA;have hsc:((D.slots.length:Int))*(c+1)≤6*(c+1):=Int.mul_le_mul_of_nonneg_right (by omega) (by omega);obtain⟨es,ns,ms,q0,q1,q2,q3,q4,q5⟩:=zVp hk hc (fun j=>env++[⟨⟨0,0,m1.temp⟩,j,zQt hs[k] j⟩]) t ht (Nat.le_refl R) mA ((hx.adv g2).adv aA)
   (fun j=>((he.mono g2.temp1).mono aA.temp1).snoc m1.temp j _ (zYt hsT j) (fun b hb e=>by have hb':=he.new b hb (by rw[e]);rw[e]at hb';have:=g2.temp1;simp only at hb';omega) (by omega)) (fun j=>by simp) (fun j=>by simp; omega) D.slots.length (hlA.mono (by omega))
  have aE:=q3 D.slots.length (Nat.le_refl _);have eown:mA.own=m.own:=aA.own.trans g2.own;refine⟨.mk ⟨0,0,m1.temp⟩ 10 0 hs[k].id Typ.zero (a::es) ns,ms D.slots.length,?_,((g2.trans aA).trans aE).mono (by omega),?_,?_,zCt ?_⟩
  rotate_left
  ·refine .mtch _ _ k hks a es t ns (by omega) ekind (by rw[eslots,q0]) g3 fun j hj=>?_
   have:=(q5 j hj (by omega)).elim fun mm h=>h.2.2.1
   rw[eown,zR2 (by rw[eslots]; omega)]at this;exact this
  ·simp only[tmps,jX];have s1:Seg m1.temp (m1.temp+1) [m1.temp]:=Seg.one _;have s2:=s1.append (b:=m1.temp+1) (tA▸q4) (by omega) (tA▸aE.temp1);have s3:=g4.append s2 g2.temp1 (by have:=aE.temp1; omega);refine s3.perm ?_;rw[List.append_assoc];exact List.Perm.append_left _ List.perm_append_comm
  ·intro e' he';rcases List.mem_cons.1 he' with rfl | he'
   ·exact g5
   ·exact zH9 rfl (fun j hj=>(q5 j hj (by omega)).elim fun mm h=>h.2.2.2) e' he'
  refine zH Tryz.func83 rfl qGA (rs:=[.cell 10 15 true]) (by kernel_rfl) ?_;unfold qA2;have hdr:=yB hkm;rw[hD]at hdr;have hb31:k*31+31≤m.defs.length*31:=by omega
  have hnk:¬((k:Int)<0):=by omega
  simp[mkS,mkB,zB];refine zN (zVE m 1 x (by omega) (by omega) (by omega) hx.mods) [0,1] (by decide) (by simp[mkS,mkB]) (by simp) ?_;simp[mkS,mkB,hof,hnk,hkm,hdr,hb31,zP];refine zR (zMl D.id) (by simp[qX]) (by simp) ?_;simp[mkS,mkB,wd2];rw[eid]at g1;refine zN g1 [0,1] (by decide) (by simp[mkS,mkB]) (by simp[zB,zBm]) ?_;simp[mkS,mkB];refine zN (zV7 m1 10 0 l3 (by omega) (by omega) l6) [0,1] (by decide) (by simp[mkS,mkB]) (by simp) ?_;simp[mkS,mkB,zP];refine qZ (S:=Nat) (fun i=>[(0,.ptr 0 0),(2,.sl env.length (zQ env)),(4,int depth),(6,.ptr 2 0),(10,.ptr 3 0),(12,.ptr 4 0),(13,.row 5 (i+1)),(14,.ptr 6 0),(15,int i)])
   (fun i=>mkS (ms i)++[.box (zB t),.box (zF Exp.zero),.box (zP D),.row false 37 15 (i+1) (zF a++qL (es.take i)),.box [int 0,int 0,int m1.temp,int 10,int 0,int D.id.a,int D.id.b,int D.id.c,int 0,int 0,int 0,int 0,.sl 0 [],.sl 0 [],.row 7 i],.row false 9 1 i (jY (ns.take i))]) (fun i=>i≤es.length) (fun i=>es.length-i) 0 (by simp)
   ((zAf (l:=6) (o:=14) rfl rfl 9 1).trans (zS [0,1,2,3,4,5,6,7] 0 (by decide) (by simp) (by simp[mkS,mkB,zB,q2,hmA,zF,Exp.zero,Id.zero,Typ.zero,zP]) (by simp))) ?_
  intro i hi;by_cases hi2:i<es.length
  ·have hid:i<D.slots.length:=by omega
   have hin:i<ns.length:=by omega
   obtain⟨mm,g1',g2',_,_⟩:=q5 i hi2 hin;have hsty:zQt hs[k] i=D.slots[i].typ:=by rw[zR2 (by rw[eslots]; exact hid)]; simp only[eslots]
   have hst:qL (es.take (i+1))=qL (es.take i)++zF es[i]:=zAi hi2;have hsn:jY (ns.take (i+1))=jY (ns.take i)++zU8 ns[i]:=by unfold jY; rw[List.take_succ_eq_append_getElem hin,List.flatMap_append]; simp
   have hw:IntKind.i64.wrap ((i:Int)+1)=(i:Int)+1:=IntWalk.i64_in _ (by omega);have hdS:List.drop (i*11+4) (jU D.slots)=(zAd D.slots[i]++jU (D.slots.drop (i+1))).drop 4:=by rw[←List.drop_drop,jL hid]
   have hbS:i*11+4+5≤D.slots.length*11:=by omega
   simp[mkS,mkB,zP,zB,hid,hdS,hbS,zAd,wd];intro _;refine qE (zCI env ⟨⟨0,0,m1.temp⟩,i,zQt hs[k] i⟩ (by omega)) (by simp[zA9,hsty]) (by simp) ?_;simp[mkS,mkB,wd];refine zAr g1' [0,1] (by decide) (by simp[mkS,mkB]) (by simp[zB]) ?_;simp[mkS,mkB];refine⟨⟨by simp[maxLen]; omega,by omega⟩,?_⟩;refine yX g2' [0,1] (by decide) (by simp[mkS,mkB]) (by simp) (by decide) (by simp) (by simp[mkS]) ?_;simp[mkS,mkB];refine⟨⟨by simp[maxLen]; omega,by omega⟩,?_⟩;exact zT (i+1) hi2 (by omega) (zS [0,1,2,3,4,5,6,7] 0 (by decide) (by simp) (by simp[mkS,mkB,zB,zF,Exp.zero,Id.zero,Typ.zero,zP,hst,hsn,zU8]) (by simp[hw]))
  ·have hie:i=es.length:=by omega
   subst hie;have hid:¬es.length<D.slots.length:=by omega
   have hnl:List.take es.length ns=ns:=List.take_of_length_le (by omega);simp[mkS,mkB,zP,hid];intro _;refine⟨qT [(0,.ptr 0 0),(10,.ptr 3 0),(13,.sl (es.length+1) (qL (a::es))),(14,.ptr 4 0)],mkS (ms es.length)++[.box (zB t),.box (zF Exp.zero),.box [int 0,int 0,int m1.temp,int 10,int 0,int D.id.a,int D.id.b,int D.id.c,int 0,int 0,int 0,int 0,.sl 0 [],.sl 0 [],.sl es.length (jY ns)]],zS [0,1,2,3,6] 1 (by decide) (by simp) (by simp[mkS,mkB,zB,zF,Exp.zero,Id.zero,Typ.zero,hnl]) (by simp[zJ]),?_⟩;simp[mkS,mkB];exact zG [0,1] 0 (by decide) (by simp) (by simp[q0]) (by simp[zF,Id.zero,Typ.zero,eid,q0,q1])
@[simp] theorem zAK:∀(a b:List Val),zV (a++b)=zV a++zV b
 | [],b=>by simp
 | x::a,b=>by simp[zAK a b]
theorem qG {k n:Int}{l:List Val}:(Val.mk k n l).k=k:=rfl
theorem zY {k n:Int}{l:List Val}:(Val.mk k n l).n=n:=rfl
theorem zM {k n:Int}{l:List Val}:(Val.mk k n l).kids=l:=rfl
def qFB:K:=G [kO 4 0,kO 5 1,kZ 8 [ki,ki,kl],kMi 9 0,kMi 10 0] (Z (G [J 19 4 2,J 20 5 5,kC 21 157 [(kt 19),(kt 20)],kR 22 21] (Y 22 (G [kb 23 [ki,ki,kl] [],M 24 3,S 8 23 3,M 9 24,kMi 10 1] kr) ks)) (G [M 25 3,kBi 26 25 1 .add,M 3 26] (Z (G [M 27 3,kBi 28 27 256 .gtr,M 29 28,T 29 false (M 30 2),T 29 false (kBi 31 30 24 .gtr),kPt 32 29 31] (Y 32 (G [kb 33 [ki,ki,kl] [],M 34 3,S 8 33 3,M 9 34,kMi 10 4] kr) ks)) (Z (G [D 35 5 0,L 36 35 1,kQi 37 36 0 false] (Y 37 (G [kb 38 [ki,ki,kl] [(0,1,(kc 0))],M 39 3,S 8 38 3,M 9 39,kMi 10 0] kr) ks)) (Z (G [D 40 5 0,L 41 40 1,kQi 42 41 1 false] (Y 42 (G [kb 43 [ki,ki,kl] [(0,1,(kc 1))],M 44 3,S 8 43 3,M 9 44,kMi 10 0] kr) ks)) (Z (G [D 45 5 0,L 46 45 1,kQi 47 46 2 false] (Y 47 (G [kb 48 [ki,ki,kl] [(0,1,(kc 4))],M 49 3,S 8 48 3,M 9 49,kMi 10 0] kr) ks)) (G [J 51 4 2,D 52 5 1,J 53 52 3,kC 54 26 [(kt 51),(kt 53)],M 50 54,kE 55 50 0,kE 56 50 1,kZ 11 kz0,S 11 55 31,M 12 56] (G [kb 57 [ki,ki,kl] [(0,1,(kc 2))],kZ 13 [ki,ki,kl],S 13 57 3] (G [D 58 11 8,L 59 58 1,kN 60 59,M 14 60] (Z (G [D 61 11 3,L 62 61 1,kQi 63 62 1 false] (Y 63 (G [D 64 13 0,⟨none,.st none (kt 64) (kc 3) 1⟩] (Z (G [M 65 14,kQi 66 65 0 false] (Y 66 (G [kb 67 [ki,ki,kl] [],M 68 3,S 8 67 3,M 9 68,kMi 10 1] kr) ks)) (K.ops [kMi 14 1]))) ks)) (Z (G [kMi 15 0] (K.block 0 (K.loop (Z (G [M 69 15,M 70 14,kB 71 69 70 .lss] (Y 71 ks (K.exit 0))) (Z (K.block 1 (Z (K.dops [(0,1,J 75 4 2),(1,1,D 76 11 8),(2,1,L 77 76 1),(3,0,M 78 15),(4,1,kX 79 77 78 11),(5,1,D 80 79 4),(6,1,J 81 80 5),(7,0,
 M 82 2),(8,0,kBi 83 82 1 .add),(9,0,M 84 3),(10,1,kC 85 142 [(kt 75),(kt 81),(kt 83),(kt 84)]),(11,0,M 74 85),(12,0,kE 86 74 0),(13,0,kE 87 74 1),(14,0,kE 88 74 2),(15,0,kZ 16 [ki,ki,kl]),(16,0,S 16 86 3),(17,0,M 17 87),(18,0,M 18 88)]) (Z (G [M 89 18,kQi 90 89 0 true] (Y 90 (G [kb 91 [ki,ki,kl] [],M 92 17,M 93 18,S 8 91 3,M 9 92,M 10 93] kr) ks)) (G [M 94 17,M 3 94] (K.ops [D 95 13 2,L 96 95 1,J 97 16 3,kd 98 47 3 1 [ki,ki,kl] [(0,3,(kt 97))],kP 99 47 3 40 96 98,D 100 13 2,S 100 99 1]))))) (K.ops [M 72 15,kBi 73 72 1 .add,M 15 73])))))) (G [J 101 13 3,M 102 3,S 8 101 3,M 9 102,kMi 10 0] kr))))))))))))
theorem qMv:zL Tryz.prog Tryz.f142.ntmps (Tryz.f142.body.getD .skip)=some qFB.erase:=by kernel_rfl
@[simp] theorem qNB:zA Tryz.prog 142=true:=by kernel_rfl
def qFC:K:=G [kO 2 0,kO 3 1,kZ 4 [ki,ki,kl],kMi 5 0] (G [J 10 2 2,J 11 3 5,kC 12 142 [(kt 10),(kt 11),(kc 1),(kc 0)],M 9 12,kE 13 9 0,kE 14 9 1,kE 15 9 2,kZ 6 [ki,ki,kl],S 6 13 3,M 7 14,M 8 15] (Z (G [M 16 8,kQi 17 16 0 true] (Y 17 (G [kb 18 [ki,ki,kl] [],M 19 8,S 4 18 3,M 5 19] kr) ks)) (G [J 20 6 3,S 4 20 3,kMi 5 0] kr)))
theorem qMw:zL Tryz.prog Tryz.f123.ntmps (Tryz.f123.body.getD .skip)=some qFC.erase:=by kernel_rfl
@[simp] theorem qNC:zA Tryz.prog 123=true:=by kernel_rfl
def Wz (p:Prg):Nat→Typ→Prop
 | 0,_=>False
 | f+1,t=>validT p t=true∧(t.k=0∨t.k=1∨t.k=2∨(t.k=3∧((dfn p t.id).kind=0∨(dfn p t.id).kind=1)∧1≤(dfn p t.id).slots.length∧(dfn p t.id).slots.length≤3∧∀s∈(dfn p t.id).slots,Wz p f s.typ))
def zAx (p:Prg):Nat→Typ→Val
 | 0,_=>.mk 0 0 []
 | f+1,t=>if t.k=0 then .mk 0 0 [] else if t.k=1 then .mk 1 0 [] else if t.k=2 then .mk 4 0 []
  else if (dfn p t.id).kind=1 then .mk 3 0 (((dfn p t.id).slots.map fun s=>zAx p f s.typ).take 1) else .mk 2 0 ((dfn p t.id).slots.map fun s=>zAx p f s.typ)
def zcN:Nat→Nat
 | 0=>0
 | f+1=>1+3*zcN f
theorem zGo {l:List Val}{c:Nat}(h:∀v∈l,qH v≤c):qV l≤l.length*c:=by
 induction l with
 | nil=>simp[qV]
 | cons v l ih =>
  have h1:=h v (List.mem_cons_self ..);have h2:=ih fun x hx=>h x (List.mem_cons_of_mem _ hx)
  simp only[qV,List.length_cons,Nat.add_mul,Nat.one_mul];omega
theorem zGq (p:Prg):∀(f:Nat) (t:Typ),Wz p f t→qH (zAx p f t)≤zcN f
 | 0,t,h=>h.elim
 | f+1,t,h=>by
  unfold Wz at h;unfold zAx zcN;obtain⟨_,h⟩:=h;by_cases h0:t.k=0
  ·rw[if_pos h0]; simp[qH,qV]
  by_cases h1:t.k=1
  ·rw[if_neg h0,if_pos h1]; simp[qH,qV]
  by_cases h2:t.k=2
  ·rw[if_neg h0,if_neg h1,if_pos h2]; simp[qH,qV]
  rw[if_neg h0,if_neg h1,if_neg h2];obtain⟨_,_,_,g3,g4⟩:=h.resolve_left h0|>.resolve_left h1|>.resolve_left h2;have hm:∀v∈(dfn p t.id).slots.map fun s=>zAx p f s.typ,qH v≤zcN f:=fun v hv=>by obtain⟨s,hs,rfl⟩:=List.mem_map.1 hv;exact zGq p f s.typ (g4 s hs)
  have hl:((dfn p t.id).slots.map fun s=>zAx p f s.typ).length≤3:=by simpa using g3
  generalize ((dfn p t.id).slots.map fun s=>zAx p f s.typ)=L at hm hl;split
  ·have:=zGo (l:=L.take 1) fun v hv=>hm v (List.mem_of_mem_take hv)
   have e:(L.take 1).length*zcN f≤3*zcN f:=Nat.mul_le_mul_right _ (by simp; omega);simp only[qH]; omega
  ·have:=zGo hm;have e:L.length*zcN f≤3*zcN f:=Nat.mul_le_mul_right _ hl;simp only[qH]; omega
theorem zRD (p:Prg)(hL:p.defs.length≤1000000):∀(f:Nat) (t:Typ) (d:Int) (u:Nat),Wz p f t→1≤d→d+f≤25→u+zcN f≤256 →
 Ret Tryz.prog 142 [.agg (zU p),.agg (zB t),int d,int u] [] (.tup [.agg (zI (zAx p f t)),int (u+qH (zAx p f t):Nat),int 0]) []
 | 0,t,d,u,h,_,_,_=>h.elim
 | f+1,t,d,u,h,hd,hdf,hu=>by
  have hz:=zGq p (f+1) t h;unfold Wz at h;obtain⟨hv,h⟩:=h;simp only[zcN]at hu hz;refine zK Tryz.func142 rfl qMv (rs:=[.cell 8 3 true,.slot 9,.slot 10]) (by kernel_rfl) ?_;unfold qFB;have hwu:IntKind.i64.wrap ((u:Int)+1)=(u:Int)+1:=IntWalk.i64_in _ (by omega);have hu1:¬(256:Int)<(u:Int)+1:=by omega
  have hd1:¬24<d:=by omega
  simp[zU,zB];refine zR (zOA p hL t) (by simp[zU,zB]) (by simp) ?_;by_cases h0:t.k=0
  ·have e:zAx p (f+1) t=.mk 0 0 []:=by rw[zAx,if_pos h0]
   rw[e];simp[hv,hwu,hu1,hd1,h0];exact zC 0 (by simp[zI,qG,zY,zM,qH,qV])
  by_cases h1:t.k=1
  ·have e:zAx p (f+1) t=.mk 1 0 []:=by rw[zAx,if_neg h0,if_pos h1]
   rw[e];simp[hv,hwu,hu1,hd1,h1];exact zC 0 (by simp[zI,qG,zY,zM,qH,qV])
  by_cases h2:t.k=2
  ·have e:zAx p (f+1) t=.mk 4 0 []:=by rw[zAx,if_neg h0,if_neg h1,if_pos h2]
   rw[e];simp[hv,hwu,hu1,hd1,h2];exact zC 0 (by simp[zI,qG,zY,zM,qH,qV])
  obtain⟨_,gk,g1,g3,g4⟩:=h.resolve_left h0|>.resolve_left h1|>.resolve_left h2;simp[hv,hwu,hu1,hd1,h0,h1,h2];refine zR (zIA p hL t.id) (by simp[zU,qX]) (by simp[zAL]) ?_;have hD:(yC p.defs t.id).getD .zero=dfn p t.id:=rfl;have hzl:∀s∈(dfn p t.id).slots,qH (zAx p f s.typ)≤zcN f:=fun s hs=>zGq p f s.typ (g4 s hs)
  have hLl:((dfn p t.id).slots.map fun s=>zAx p f s.typ).length=(dfn p t.id).slots.length:=by simp
  have hLg:∀i (h:i<(dfn p t.id).slots.length),((dfn p t.id).slots.map fun s=>zAx p f s.typ)[i]?=some (zAx p f (dfn p t.id).slots[i].typ):=fun i h=>by simp[h]
  have e:∃(Q:Nat) (K:Int),zAx p (f+1) t=.mk K 0 (((dfn p t.id).slots.map fun s=>zAx p f s.typ).take Q)∧Q≤(dfn p t.id).slots.length∧(((dfn p t.id).kind=1∧Q=1∧K=3)∨((dfn p t.id).kind=0∧Q=(dfn p t.id).slots.length∧K=2)):=by
   rcases gk with gk | gk
   ·exact⟨_,2,by rw[zAx,if_neg h0,if_neg h1,if_neg h2,if_neg (by omega),List.take_of_length_le (by simp)],Nat.le_refl _,.inr ⟨gk,rfl,rfl⟩⟩
   ·exact⟨1,3,by rw[zAx,if_neg h0,if_neg h1,if_neg h2,if_pos gk],g1,.inl ⟨gk,rfl,rfl⟩⟩
  obtain⟨Q,K,e,hQ,hQK⟩:=e;rw[e]at hz ⊢;clear e gk;generalize ((dfn p t.id).slots.map fun s=>zAx p f s.typ)=L at hLl hLg hz;generalize dfn p t.id=D at hD g1 g3 g4 hzl hLl hLg hQ hQK;have hs0:∀i,i≤D.slots.length→qV (L.take i)≤i*zcN f:=fun i hi=>by
   have:=zGo (l:=L.take i) (c:=zcN f) fun v hv=>by obtain⟨j,hj,rfl⟩:=List.mem_iff_getElem.1 (List.mem_of_mem_take hv);have:=hLg j (by omega);rw[List.getElem?_eq_getElem hj]at this;rw[Option.some.inj this];exact hzl _ (List.getElem_mem _)
   simpa [Nat.min_eq_left (show i≤L.length by omega)] using this
  rcases hQK with ⟨hk,hQ1,hK⟩ | ⟨hk,hQ1,hK⟩
  case' inl =>
   have hn0:¬D.slots=[]:=fun e=>by rw[e]at g1; simp at g1
   simp[zAL,hD,zP,hk,hn0];intro _
  case' inr =>
   simp[zAL,hD,zP,hk];intro _
  all_goals
   refine qZ (S:=Nat) (fun i=>[(2,int d),(3,int ((u+1+qV (L.take i):Nat):Int)),(4,.ptr 0 0),(8,.ptr 2 0),(11,.ptr 3 0),(13,.ptr 4 0),(14,int Q),(15,int i)])
    (fun i=>[.box (zU p),.box (zB t),.box [int 0,int 0,.nil],.box (zP D),.box [int K,int 0,.row 5 i],.row false 47 3 i (zV (L.take i))]) (fun i=>i≤Q) (fun i=>Q-i) 0 (by simp)
    ((zAf (l:=4) (o:=2) rfl rfl 47 3).trans (zS [0,1,2,3,4,5] 0 (by simp) (by simp) (by simp[zU,zB,zP,hk,hK]) (by simp[qV,hQ1]))) ?_
   intro i hi;by_cases hiQ:i<Q
   ·have hiD:i<D.slots.length:=by omega
    have hiL:i<L.length:=by omega
    have hLi:=hLg i hiD;rw[List.getElem?_eq_getElem hiL]at hLi;have hLi:=Option.some.inj hLi;have htL:zV (L.take (i+1))=zV (L.take i)++zI (zAx p f D.slots[i].typ):=by rw[List.take_succ_eq_append_getElem hiL,hLi]; simp[zI]
    have hsz:=zFJ hiL;rw[hLi]at hsz;have b1:=hs0 i (by omega);have b2:i*zcN f≤2*zcN f:=Nat.mul_le_mul_right _ (by omega);have hwd:IntKind.i64.wrap (d+1)=d+1:=IntWalk.i64_in _ (by omega);have hwi:IntKind.i64.wrap ((i:Int)+1)=(i:Int)+1:=IntWalk.i64_in _ (by omega);simp[hiQ,hiD,jL hiD,zU,zP,zAd,hwd];refine zA3 (zRD p hL f D.slots[i].typ (d+1) (u+1+qV (L.take i)) (g4 _ (List.getElem_mem hiD)) (by omega) (by omega) (by omega)) (by simp[zU,zB]) (by simp[zI]) ?_;simp[zIs,zI];refine⟨⟨by simp[maxLen]; omega,by omega⟩,?_⟩;exact zT (i+1) hiQ (by omega) (zS [0,1,2,3,4,5] 0 (by simp) (by simp) (by simp[zU,zB,zP,htL,zI]) (by simp[hwi,hsz]; omega))
   ·have hiQ:i=Q:=by omega
    subst hiQ;have hlt:(L.take i).length=i:=by simp; omega
    simp;exact zC 1 (by simp[zI,hlt,qG,zY,zM,qH,Nat.add_assoc]; omega)
theorem qCU {f:Nat}(h:f≤5):zcN f≤121:=by
 have:f=0∨f=1∨f=2∨f=3∨f=4∨f=5:=by omega
 rcases this with rfl | rfl | rfl | rfl | rfl | rfl<;>decide
theorem zPe (p:Prg)(hL:p.defs.length≤1000000)(f:Nat)(hf:f≤5)(t:Typ)(h:Wz p f t):Ret Tryz.prog 123 [.agg (zU p),.agg (zB t)] [] (.tup [.agg (zI (zAx p f t)),int 0]) []:=by refine zK Tryz.func123 rfl qMw (rs:=[.cell 4 3 true,.slot 5]) (by kernel_rfl) ?_;unfold qFC;have hz:=qCU hf;simp[zU,zB];refine zR (zRD p hL f t 1 0 h (by omega) (by omega) (by omega)) (by simp[zU,zB]) (by simp[zI]) ?_;simp[zI];exact zC 0 (by simp)
def qFu:K:=G [kO 6 1,kZ 10 kz1] (Z (G [kMi 11 0] (K.block 0 (K.loop (Z (G [M 16 11,M 17 0,kU 18 17,D 19 18 0,D 20 19 1,L 21 20 1,kN 22 21,kB 23 16 22 .lss] (Y 23 ks (K.exit 0))) (Z (K.block 1 (G [M 26 3,M 27 11,kB 28 26 27 .add,M 29 0,kU 30 29,D 31 30 0,D 32 31 1,L 33 32 1,kN 34 33,kB 35 28 34 .rem,M 12 35] (G [M 36 0,kU 37 36,D 38 37 0,D 39 38 1,L 40 39 1,M 41 12,kX 42 40 41 31,J 43 42 31,kZ 13 kz0,S 13 43 31] (G [kMi 14 0] (K.block 2 (K.loop (Z (G [M 44 14,D 45 13 8,L 46 45 1,kN 47 46,kB 48 44 47 .lss,M 49 48,T 49 true (D 50 13 3),T 49 true (L 51 50 1),T 49 true (kQi 52 51 0 false),kPf 53 49 52,M 54 53,T 54 true (M 55 0),T 54 true (M 56 12),T 54 true (kC 57 119 [(kt 55),(kt 56)]),kPf 58 54 57] (Y 58 ks (K.exit 2))) (Z (K.block 3 (Z (K.dops [(0,0,D 61 13 8),(1,0,L 62 61 1),(2,0,M 63 14),(3,0,kX 64 62 63 11),(4,0,D 65 64 4),(5,0,J 66 65 5),(6,0,J 67 6 5),(7,0,kC 68 109 [(kt 66),(kt 67)])]) (Y 68 (G [M 69 0,M 70 14,M 71 0,D 72 13 0,J 73 72 3,kC 74 72 [(kt 73)],M 75 2,M 76 4,kBi 77 76 1 .sub,kC 78 34 [(kt 71),(kt 74),(kt 75),(kt 77)],kd 79 37 15 1 kz1 [(0,15,(kt 78))],kC 80 80 [(kt 69),(kc 8),(kt 70),(kt 79)],kZ 15 kz1,S 15 80 15] (G [D 81 13 0,J 82 81 3,D 83 15 5,S 83 82 3] (G [J 84 15 15,S 10 84 15] kr))) ks))) (K.ops [M 59 14,kBi 60 59 1 .add,M 14 60]))))))))) (K.ops [M 24 11,kBi 25 24 1 .add,M 11 25])))))) (G [M 85 0,J 86 6 5,M 87 2,M 88 3,M 89 4,kC 90 86 [(kt 85),(kt 86),(kt 87),(kt 88),(kt 89)],S 10 90 15] kr))
theorem qMe:zL Tryz.prog Tryz.f84.ntmps (Tryz.f84.body.getD .skip)=some qFu.erase:=by kernel_rfl
@[simp] theorem qNg:zA Tryz.prog 84=true:=by kernel_rfl
abbrev zUW:FuncId:=84
theorem zRj {p:Nat→Bool}:∀{n:Nat},(∃i,i<n∧p i=true)→∃i,i<n∧p i=true∧∀j<i,p j=false
 | 0,⟨i,hi,_⟩=>by omega
 | n+1,⟨i,hi,hp⟩=>by
  by_cases h:∃i,i<n∧p i=true
  ·obtain⟨j,h1,h2,h3⟩:=zRj h;exact⟨j,by omega,h2,h3⟩
  ·have hin:i=n:=by
    by_cases e:i=n
    ·exact e
    ·exact(h ⟨i,by omega,hp⟩).elim
   subst hin;refine⟨i,by omega,hp,fun j hj=>?_⟩;cases hpj:p j
   ·rfl
   ·exact(h ⟨j,hj,hpj⟩).elim
def zVb (m:Mk)(t:Typ)(k:Nat):Bool:=match m.defs[k]? with
 | some d=>decide (d.kind=0)&&(zGW m k&&d.slots.any fun s=>yL s.typ t)
 | none=>false
set_option maxHeartbeats 4000000 in
theorem zUX {hs:List Hd}{R:Nat}{m:Mk}{env:List Bnd}{c depth:Int}{len:Nat}(hc:0≤c)(hl:Lim m (7*c+7))(x:Nat)(hx1:x≤65536)(hk:zBd hs R c (depth-1) (fun r=>r≤R) len)
 (hx:Cx hs R m)(he:EnvOk hs R m.temp env)(h1:0<env.length)(h2:env.length≤len)(h3:env.length≤1000)(hd1 : -1000≤depth)(hd2:depth≤1000)(t:Typ)(ht:TyOk hs R t)
 (hop:zA5 hs m.own opF m [.ptr 0 0,.agg (zB t),.sl env.length (zQ env),int x,int depth] env t (7*c+7)) :
 zA5 hs m.own zUW m [.ptr 0 0,.agg (zB t),.sl env.length (zQ env),int x,int depth] env t (7*c+7):=by
 have hdl:=hx.dlen;have hd100:=hx.len;have hd0:=hx.len0;have hN:0<m.defs.length:=by omega
 have wd:IntKind.i64.wrap (depth-1)=depth-1:=IntWalk.i64_in _ (by omega);obtain⟨i0,e,m',hi0,hlow,hfull,hhit,hA,hW,hS,hZ⟩:∃(i0:Nat) (e:Exp) (m':Mk),i0≤m.defs.length∧(∀i<i0,zVb m t ((x+i) % m.defs.length)=false) ∧
  (i0=m.defs.length→Ret Tryz.prog opF [.ptr 0 0,.agg (zB t),.sl env.length (zQ env),int x,int depth] (mkS m) (.agg (zF e)) (mkS m')) ∧
  (∀(hlt:i0<m.defs.length) (D:Dfn),m.defs[(x+i0) % m.defs.length]?=some D→D.kind=0∧zGW m ((x+i0) % m.defs.length)=true∧∃(j0:Nat) (hj0:j0<D.slots.length) (a:Exp) (m1:Mk),yL D.slots[j0].typ t=true∧(∀(j:Nat) (hj:j<j0),yL D.slots[j].typ t=false) ∧
   Ret Tryz.prog yU [.ptr 0 0,.agg (zB (zBm D.id)),.sl env.length (zQ env),int (depth-1)] (mkS m) (.agg (zF a)) (mkS m1)∧Lim m1 1 ∧
   e=.mk ⟨0,0,m1.temp⟩ 8 j0 D.id Typ.zero [a] []∧m'={m1 with temp:=m1.temp+1,left:=m1.left-1}) ∧
  Adv m m' (7*c+7)∧WT hs m.own env e t∧Seg m.temp m'.temp (tmps e)∧e.num0:=by
  by_cases hex:∃i,i<m.defs.length∧zVb m t ((x+i) % m.defs.length)=true
  ·obtain⟨i0,hi0,hp,hlow⟩:=zRj hex;have hkm:=Nat.mod_lt (x+i0) hN;generalize hkk:(x+i0) % m.defs.length=k at hkm hp;have hks:k<hs.length:=by omega
   have hget:=hx.get hkm;unfold zVb at hp;rw[List.getElem?_eq_getElem hkm]at hp;simp only[Bool.and_eq_true,decide_eq_true_eq]at hp;generalize hD:m.defs[k]=D at hget hp;obtain⟨hkind,hvis,hany⟩:=hp;have eid:hs[k].id=D.id:=by rw[hget]; rfl
   have eslots:hs[k].slots=D.slots:=by rw[hget]; rfl
   have ekind:hs[k].kind=0:=by rw[hget]; exact hkind
   obtain⟨j0,hj0,hpj,hlj⟩:=zRj (p:=fun j=>match D.slots[j]? with | some s=>yL s.typ t | none=>false) (n:=D.slots.length) (by
    rw[List.any_eq_true]at hany;obtain⟨s,hs1,hs2⟩:=hany;obtain⟨j,hj,rfl⟩:=List.getElem_of_mem hs1;exact⟨j,hj,by simp only[List.getElem?_eq_getElem hj]; exact hs2⟩)
   simp only[List.getElem?_eq_getElem hj0]at hpj;obtain⟨a,m1,g1,g2,g3,g4,g5⟩:=hk m R (zBm hs[k].id) env hx (hl.mono (by omega)) (hx.typs k hks (.inl ekind)) (Nat.le_refl _) he h1 h2;refine⟨i0,.mk ⟨0,0,m1.temp⟩ 8 j0 D.id Typ.zero [a] [],{m1 with temp:=m1.temp+1,left:=m1.left-1},by omega,hlow,fun h=>by omega,fun hlt D' hD'=>?_,(g2.trans (yR _)).mono (by omega),?_,zNh g4 g2.temp1,zK1 g5⟩
   ·rw[hkk,List.getElem?_eq_getElem hkm,hD]at hD';injection hD' with hD'
    subst hD';rw[hkk];refine⟨hkind,hvis,j0,hj0,a,m1,hpj,fun j hj=>?_,by rw[←eid]; exact g1,Lim.adv (c:=c) (hl.mono (by omega)) g2,rfl,rfl⟩;have:=hlj j hj;simp only[List.getElem?_eq_getElem (show j<D.slots.length by omega)]at this;exact this
   ·have hjs:j0<hs[k].slots.length:=by rw[eslots]; exact hj0
    have:=WT.field (own:=m.own) env ⟨0,0,m1.temp⟩ k hks j0 hjs a ekind g3;rw[eid]at this;have e2:hs[k].slots[j0].typ=t:=by rw[←(zEq _ _).1 hpj];simp only[eslots]
    rw[e2]at this;exact this
  ·obtain⟨e,m',g1,g2,g3,g4,g5⟩:=hop;refine⟨m.defs.length,e,m',Nat.le_refl _,fun i hi=>?_,fun _=>g1,fun h=>by omega,g2,g3,g4,g5⟩;cases hp:zVb m t ((x+i) % m.defs.length)
   ·rfl
   ·exact(hex ⟨i,hi,hp⟩).elim
 refine⟨e,m',?_,hA,hW,hS,hZ⟩;refine zH Tryz.func84 rfl qMe (rs:=[.cell 10 15 true]) (by kernel_rfl) ?_;unfold qFu;simp[mkS,mkB,zB];refine qZ (S:=Nat) (fun i=>[(0,.ptr 0 0),(2,.sl env.length (zQ env)),(3,int x),(4,int depth),(6,.ptr 2 0),(10,.ptr 3 0),(11,int i)])
  (fun _=>mkS m++[.box (zB t),.box (zF Exp.zero)]) (fun i=>i≤i0) (fun i=>i0-i) 0 (by simp)
  (zS [0,1,2,3] 0 (by decide) (by simp) (by simp[mkS,mkB,zB,zF,Exp.zero,Id.zero,Typ.zero]) (by simp)) ?_
 intro i hi;by_cases h:i<m.defs.length
 ·have hkm:=Nat.mod_lt (x+i) hN;have w1:IntKind.i64.wrap ((x:Int)+i)=(x:Int)+i:=IntWalk.i64_in _ (by omega);have w2:IntKind.i64.wrap ((i:Int)+1)=(i:Int)+1:=IntWalk.i64_in _ (by omega);have e1:Int.tmod ((x:Int)+i) (m.defs.length:Int)=(((x+i) % m.defs.length:Nat):Int):=by rw[tmN (by omega)]; simp
  have hnil:m.defs≠[]:=fun e=>by rw[e]at hN; simp at hN
  have hne:¬((m.defs.length:Int)=0):=by omega
  have hlow':=fun hlt:i<i0=>hlow i hlt
  have hhit':i=i0→_:=fun e=>hhit (by omega) m.defs[(x+i) % m.defs.length] (by rw[←e,List.getElem?_eq_getElem hkm])
  unfold zVb at hlow';rw[List.getElem?_eq_getElem hkm]at hlow';have hsl:m.defs[(x+i) % m.defs.length].slots.length≤6:=by have:=(hx.slots ((x+i) % m.defs.length) (by omega)).1;rw[hx.get hkm]at this;exact this
  generalize hkk:(x+i) % m.defs.length=k at hkm e1 hlow' hhit' hsl;generalize hD:m.defs[k]=D at hlow' hhit' hsl;have hdr:=yB hkm;rw[hD]at hdr;have hb31:k*31+31≤m.defs.length*31:=by omega
  simp[mkS,mkB,h,w1,e1,hne,hkm,hdr,hb31,zP,hnil];by_cases hlt:i<i0
  ·have hno:=hlow' hlt;refine qZ (S:=Nat) (fun j=>[(0,.ptr 0 0),(2,.sl env.length (zQ env)),(3,int x),(4,int depth),(6,.ptr 2 0),(10,.ptr 3 0),(11,int i),(12,int k),(13,.ptr 4 0),(14,int j)])
    (fun _=>mkS m++[.box (zB t),.box (zF Exp.zero),.box (zP D)]) (fun j=>j≤D.slots.length) (fun j=>D.slots.length-j) 0 (by simp)
    (zS [0,1,2,3,4] 0 (by decide) (by simp) (by simp[mkS,mkB,zB,zF,Exp.zero,Id.zero,Typ.zero,zP]) (by simp)) ?_
   intro j hj;by_cases hjl:j<D.slots.length
   ·have hdS:List.drop (j*11+4) (jU D.slots)=(zAd D.slots[j]++jU (D.slots.drop (j+1))).drop 4:=by rw[←List.drop_drop,jL hjl]
    have hbS:j*11+4+5≤D.slots.length*11:=by omega
    by_cases hkd:D.kind=0
    ·simp[mkS,mkB,zP,zB,hjl,hkd];intro _;refine zN (zLb m k hkm hx.mods) [0,1] (by decide) (by simp[mkS,mkB]) (by simp) ?_;cases hv:zGW m k
     ·simp[mkS,mkB];exact zT (i+1) (by omega) (by omega) (zS [0,1,2,3] 0 (by decide) (by simp) (by simp[mkS,mkB,zB,zF,Exp.zero,Id.zero,Typ.zero]) (by simp[w2]))
     ·have hsf:yL D.slots[j].typ t=false:=by
       simp only[hkd,hv,decide_true,Bool.true_and]at hno;rw[List.any_eq_false]at hno
       simpa using hno D.slots[j] (List.getElem_mem hjl)
      have hw:IntKind.i64.wrap ((j:Int)+1)=(j:Int)+1:=IntWalk.i64_in _ (by omega);simp[mkS,mkB,zP,zB,hjl,hdS,hbS,zAd];refine qE (zDv D.slots[j].typ t) (by simp[zB]) (by simp) ?_;rw[hsf];simp[mkS,mkB];exact zT (j+1) hjl (by omega) (zS [0,1,2,3,4] 0 (by decide) (by simp) (by simp[mkS,mkB,zB,zF,Exp.zero,Id.zero,Typ.zero,zP,hkd]) (by simp[hw]))
    ·simp[mkS,mkB,zP,zB,hjl,hkd];intro _;exact zT (i+1) (by omega) (by omega) (zS [0,1,2,3] 0 (by decide) (by simp) (by simp[mkS,mkB,zB,zF,Exp.zero,Id.zero,Typ.zero]) (by simp[w2]))
   ·simp[mkS,mkB,zP,zB,hjl];intro _;exact zT (i+1) (by omega) (by omega) (zS [0,1,2,3] 0 (by decide) (by simp) (by simp[mkS,mkB,zB,zF,Exp.zero,Id.zero,Typ.zero]) (by simp[w2]))
  ·have hie:i=i0:=by omega
   subst hie;obtain⟨hkd,hv,j0,hj0,a,m1,hj1,hj2,g1,hln,he1,he2⟩:=hhit' rfl;rw[hkk]at hv;obtain⟨l1,l2,l3,l4,l5,l6,l7,l8⟩:=hln;subst he1 he2;refine qZ (S:=Nat) (fun j=>[(0,.ptr 0 0),(2,.sl env.length (zQ env)),(3,int x),(4,int depth),(6,.ptr 2 0),(10,.ptr 3 0),(11,int i),(12,int k),(13,.ptr 4 0),(14,int j)])
    (fun _=>mkS m++[.box (zB t),.box (zF Exp.zero),.box (zP D)]) (fun j=>j≤j0) (fun j=>j0-j) 0 (by simp)
    (zS [0,1,2,3,4] 0 (by decide) (by simp) (by simp[mkS,mkB,zB,zF,Exp.zero,Id.zero,Typ.zero,zP]) (by simp)) ?_
   intro j hj;have hjl:j<D.slots.length:=by omega
   have hdS:List.drop (j*11+4) (jU D.slots)=(zAd D.slots[j]++jU (D.slots.drop (j+1))).drop 4:=by rw[←List.drop_drop,jL hjl]
   have hbS:j*11+4+5≤D.slots.length*11:=by omega
   have hw:IntKind.i64.wrap ((j:Int)+1)=(j:Int)+1:=IntWalk.i64_in _ (by omega);simp[mkS,mkB,zP,zB,hjl,hkd];intro _;refine zN (zLb m k hkm hx.mods) [0,1] (by decide) (by simp[mkS,mkB]) (by simp) ?_;rw[hv];simp[mkS,mkB,zP,zB,hjl,hdS,hbS,zAd];refine qE (zDv D.slots[j].typ t) (by simp[zB]) (by simp) ?_;by_cases hjj:j<j0
   ·rw[hj2 j hjj];simp[mkS,mkB];exact zT (j+1) hjj (by omega) (zS [0,1,2,3,4] 0 (by decide) (by simp) (by simp[mkS,mkB,zB,zF,Exp.zero,Id.zero,Typ.zero,zP,hkd]) (by simp[hw]))
   ·have hje:j=j0:=by omega
    subst hje;rw[hj1];simp[mkS,mkB];refine zR (zMl D.id) (by simp[qX]) (by simp) ?_;simp[mkS,mkB,wd];refine zN g1 [0,1] (by decide) (by simp[mkS,mkB]) (by simp[zB,zBm]) ?_;simp[mkS,mkB];refine zN (yH m1 8 j [a] l3 (by omega) (by omega) l6) [0,1] (by decide) (by simp[mkS,mkB]) (by simp[zJ]) ?_;simp[mkS,mkB,zF];exact zG [0,1] 0 (by decide) (by simp) (by simp) (by simp[zF,zJ])
 ·have hii:i=m.defs.length:=by omega
  have hi0':i0=m.defs.length:=by omega
  subst hii;simp[mkS,mkB,zB];refine zN (hfull hi0') [0,1] (by decide) (by simp[mkS,mkB]) (by simp[zB]) ?_;simp[mkS,mkB];exact zG [0,1] 0 (by decide) (by simp) (by simp) (by simp[zF])
end Go.Proofs.YthglhccibdlccaaGreatDoor
