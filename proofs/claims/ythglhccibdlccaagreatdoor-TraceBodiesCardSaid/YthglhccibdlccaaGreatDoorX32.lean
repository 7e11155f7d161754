/-
  The maker's operations.
  Size and depth in plain numbers; Valid of the reference.
  The maker's matches.
-/
import Derived.Test.YthglhccibdlccaaGreatDoorX31
set_option linter.unusedVariables false
set_option linter.unusedSimpArgs false
namespace Go.Proofs.YthglhccibdlccaaGreatDoor
open Go.Abs
def zIZ:K:=G [kO 6 1,kZ 10 kz1] (Z (G [D 16 6 0,L 17 16 1,kQi 18 17 0 false] (Y 18 (Z (G [M 19 3,kBi 20 19 6 .rem,kQi 21 20 5 false] (Y 21 (G [M 22 0,M 23 0,kb 24 kz2 [],kC 25 74 [(kt 24)],M 26 2,M 27 4,kBi 28 27 1 .sub,kC 29 34 [(kt 23),(kt 25),(kt 26),(kt 28)],kd 30 37 15 1 kz1 [(0,15,(kt 29))],kC 31 80 [(kt 22),(kc 4),(kc 11),(kt 30)],S 10 31 15] kr) ks)) (G [M 32 0,J 33 6 5,M 34 2,M 35 4,kBi 36 35 1 .sub,kC 37 34 [(kt 32),(kt 33),(kt 34),(kt 36)],kZ 11 kz1,S 11 37 15] (Z (K.dops [(0,0,M 38 0),(1,0,kd 39 3 1 5 [ki,ki,ki,ki,ki] [(0,1,(kc 0)),(1,1,(kc 1)),(2,1,(kc 2)),(3,1,(kc 3)),(4,1,(kc 4))]),(2,0,M 40 3),(3,0,kBi 41 40 5 .rem),(4,2,kX 42 39 41 1),(5,2,L 43 42 1),(6,2002,J 44 11 15),(7,0,M 45 0),(8,0,J 46 6 5),(9,0,M 47 2),(10,0,M 48 4),(11,0,kBi 49 48 1 .sub),(12,1002,kC 50 34 [(kt 45),(kt 46),(kt 47),(kt 49)]),(13,0,kd 51 37 15 2 kz6 [(0,15,(kt 44)),(15,15,(kt 50))]),(14,4,kC 52 80 [(kt 38),(kc 4),(kt 43),(kt 51)]),(15,0,S 10 52 15)]) kr))) ks)) (Z (G [D 53 6 0,L 54 53 1,kQi 55 54 1 false] (Y 55 (Z (G [M 56 3,kBi 57 56 6 .rem,kQi 58 57 0 false] (Y 58 (G [M 59 0,M 60 0,J 61 6 5,M 62 2,M 63 4,kBi 64 63 1 .sub,kC 65 34 [(kt 60),(kt 61),(kt 62),(kt 64)],kd 66 37 15 1 kz1 [(0,15,(kt 65))],kC 67 80 [(kt 59),(kc 4),(kc 9),(kt 66)],S 10 67 15] kr) ks)) (G [kb 68 kz2 [],kZ 12 kz2,S 12 68 5] (G [kMi 13 5] (Z (G [M 69 3,kBi 70 69 6 .rem,kQi 71 70 2 false] (Y 71 (K.ops [kMi 13 6]) ks)) (Z (G [M 72 3,kBi 73 72 6 .rem,kQi 74 73 3 false] (Y 74 (G [kMi 13 6] (K.ops [M 75 2,
 M 76 3,kBi 77 76 6 .quo,M 78 2,kN 79 78,kB 80 77 79 .rem,kX 81 75 80 9,D 82 81 4,J 83 82 5,S 12 83 5])) ks)) (Z (G [M 84 3,kBi 85 84 6 .rem,kBi 86 85 4 .geq] (Y 86 (G [kd 87 3 1 2 [ki,ki] [(0,1,(kc 7)),(1,1,(kc 8))],M 88 3,kBi 89 88 6 .rem,kBi 90 89 4 .sub,kX 91 87 90 1,L 92 91 1,M 13 92] (K.ops [J 93 6 5,S 12 93 5])) ks)) (G [M 94 0,J 95 12 5,M 96 2,M 97 4,kBi 98 97 1 .sub,kC 99 34 [(kt 94),(kt 95),(kt 96),(kt 98)],kZ 14 kz1,S 14 99 15] (Z (K.dops [(0,0,M 100 0),(1,0,M 101 13),(2,2002,J 102 14 15),(3,0,M 103 0),(4,0,J 104 12 5),(5,0,M 105 2),(6,0,M 106 4),(7,0,kBi 107 106 1 .sub),(8,1002,kC 108 34 [(kt 103),(kt 104),(kt 105),(kt 107)]),(9,0,kd 109 37 15 2 kz6 [(0,15,(kt 102)),(15,15,(kt 108))]),(10,4,kC 110 80 [(kt 100),(kc 4),(kt 101),(kt 109)]),(11,0,S 10 110 15)]) kr)))))))) ks)) (Z (G [D 111 6 0,L 112 111 1,kQi 113 112 2 false,M 114 113,T 114 true (M 115 3),T 114 true (kBi 116 115 2 .rem),T 114 true (kQi 117 116 0 false),kPf 118 114 117] (Y 118 (G [M 119 0,J 120 6 5,M 121 2,M 122 4,kBi 123 122 1 .sub,kC 124 34 [(kt 119),(kt 120),(kt 121),(kt 123)],kZ 15 kz1,S 15 124 15] (Z (K.dops [(0,0,M 125 0),(1,2002,J 126 15 15),(2,0,M 127 0),(3,0,J 128 6 5),(4,0,M 129 2),(5,0,M 130 4),(6,0,kBi 131 130 1 .sub),(7,1002,kC 132 34 [(kt 127),(kt 128),(kt 129),(kt 131)]),(8,0,kd 133 37 15 2 kz6 [(0,15,(kt 126)),(15,15,(kt 132))]),(9,4,kC 134 80 [(kt 125),(kc 4),(kc 10),(kt 133)]),(10,0,S 10 134 15)]) kr)) ks)) (G [M 135 0,J 136 6 5,M 137 2,M 138 3,kBi 139 138 2 .quo,
 M 140 4,kC 141 79 [(kt 135),(kt 136),(kt 137),(kt 139),(kt 140)],S 10 141 15] kr))))
def qNz:Nat→Option (List (Nat×Nat)):=fun r=>match r with | 5=>some [(0,0),(1,0),(2,0),(3,0),(4,2),(5,2),(6,2002),(7,0),(8,0),(9,0),(10,0),(11,0),(12,1002),(13,0),(14,4),(15,0)] | 20=>some [(0,0),(1,0),(2,2002),(3,0),(4,0),(5,0),(6,0),(7,0),(8,1002),(9,0),(10,4),(11,0)] | 23=>some [(0,0),(1,2002),(2,0),(3,0),(4,0),(5,0),(6,0),(7,1002),(8,0),(9,4),(10,0)] | _=>none
theorem zK6:qC Tryz.prog Tryz.f86.ntmps qNz (Tryz.f86.body.getD .skip)=some zIZ.erase:=by kernel_rfl
@[simp] theorem qMj:zA Tryz.prog 86=true:=by kernel_rfl
@[simp] theorem qIs {d:Option Nat}{x:Operand}{n:Nat}{g:Bool}{env:Env}:zAG 2002 (.ld d x n g) env=zBF 2 (ev env x):=propext (zIW (by omega) (by omega))
@[simp] theorem qCa {d:Option Nat}{x:Operand}{l:List Operand}{env:Env}:zAG 1002 (.call d x l) env=True:=rfl
@[simp] theorem zZi {c l o:Nat}:zBF c (.ptr l o)=(c≤l):=rfl
abbrev opF:FuncId:=86
theorem zGv {hs:List Hd}{R:Nat}{c depth:Int}{Q:Nat→Prop}{len:Nat}(hk:zBa hs R c depth Q len){m:Mk}{env:List Bnd}(hx:Cx hs R m){c':Int}(hl:Lim m (2*c+c'))(hc:0≤c)(hc':0≤c')(he:EnvOk hs R m.temp env)(h1:0<env.length)(h2:env.length≤len)
 (t u:Typ){r r':Nat}(ht:TyOk hs r t)(hu:TyOk hs r' u)(hQ:Q r)(hQ':Q r') :
 ∃(a b:Exp) (m1 m2:Mk),Ret Tryz.prog yM [.ptr 0 0,.agg (zB t),.sl env.length (zM env),int depth] (mkS m) (.agg (zF a)) (mkS m1) ∧
  Ret Tryz.prog yM [.ptr 0 0,.agg (zB u),.sl env.length (zM env),int depth] (mkS m1) (.agg (zF b)) (mkS m2) ∧
  Adv m m2 (2*c)∧WT hs m.own env a t∧WT hs m.own env b u∧Seg m.temp m2.temp (tmps a++tmps b)∧a.num0∧b.num0∧Lim m2 c':=by
 obtain⟨a,m1,g1,g2,g3,g4,g5⟩:=hk m r t env hx (hl.mono (by omega)) ht hQ he h1 h2;have hl1:Lim m1 (c+c'):=Lim.adv (c:=c) (hl.mono (by omega)) g2;obtain⟨b,m2,k1,k2,k3,k4,k5⟩:=hk m1 r' u env (hx.adv g2) (hl1.mono (by omega)) hu hQ' (he.mono g2.temp1) h1 h2;rw[g2.own]at k3;exact⟨a,b,m1,m2,g1,k1,(g2.trans k2).mono (by omega),g3,k3,g4.append k4 g2.temp1 k2.temp1,g5,k5,Lim.adv hl1 k2⟩
theorem zE6 {a b:Exp}{t0 t1:Int}{k n:Int}(h:Seg t0 t1 (tmps a++tmps b))(h1:t0≤t1):Seg t0 (t1+1) (tmps (.mk ⟨0,0,t1⟩ k n Id.zero Typ.zero [a,b] [])):=by simp only[tmps,jA,List.append_nil];exact h.append (Seg.one _) h1 (by omega)
theorem zDh {a b:Exp}{c k n:Int}(h1:a.num0)(h2:b.num0):(Exp.mk ⟨0,0,c⟩ k n Id.zero Typ.zero [a,b] []).num0:=zCd (by simp[h1,h2])
theorem zJP {a:Exp}{c k n:Int}{r:Id}(h1:a.num0):(Exp.mk ⟨0,0,c⟩ k n r Typ.zero [a] []).num0:=zCd (by simp[h1])
theorem zM2 {a:Exp}{t0 t1:Int}{k n:Int}{r:Id}(h:Seg t0 t1 (tmps a))(h1:t0≤t1):Seg t0 (t1+1) (tmps (.mk ⟨0,0,t1⟩ k n r Typ.zero [a] [])):=by simp only[tmps,jA,List.append_nil];exact h.append (Seg.one _) h1 (by omega)
theorem zJC:Ret Tryz.prog 74 [.agg (zB jG)] [] (.agg (zB (jH jG))) []:=zXd jG
set_option maxHeartbeats 2000000 in
theorem qB5 {hs:List Hd}{R:Nat}{m:Mk}{env:List Bnd}{c depth:Int}{len:Nat}(hc:0≤c)(hl2:Lim m (2*c+1))(x:Int)(hx0:0≤x)(hx1:x≤65536)
 (hk:zBa hs R c (depth-1) (fun r=>r≤R) len)(hR:1≤R)(hx:Cx hs R m)(he:EnvOk hs R m.temp env)(h1:0<env.length)(h2:env.length≤len)(h3:env.length≤1000)(hd1 : -1000≤depth)(hd2:depth≤1000) :
 zA0 hs m.own opF m [.ptr 0 0,.agg (zB jG),.sl env.length (zM env),int x,int depth] env jG (2*c+1):=by
 have e6:x.tmod 6=x % 6:=tmN hx0;have e5:x.tmod 5=x % 5:=tmN hx0;have wd:IntKind.i64.wrap (depth-1)=depth-1:=IntWalk.i64_in _ (by omega);by_cases h6:x.tmod 6=5
 ·obtain⟨a,m1,g1,k2,k3,k4,k5⟩:=hk m 1 (jH jG) env hx (hl2.mono (by omega)) (.list _ _ (.int _)) hR he h1 h2;obtain⟨l1,l2,l3,l4,l5,l6,l7,l8⟩:=Lim.adv (c:=c) (c':=1) (hl2.mono (by omega)) k2;refine⟨.mk ⟨0,0,m1.temp⟩ 4 11 Id.zero Typ.zero [a] [],{m1 with temp:=m1.temp+1,left:=m1.left-1},?_,(k2.trans (yL _)).mono (by omega),.len _ _ _ _ k3,zM2 k4 k2.temp1,zJP k5⟩;refine zH Tryz.func86 rfl zK6 (rs:=[.cell 10 15 true]) (by kernel_rfl) ?_;unfold zIZ;simp[mkS,mkB,zB,jG,h6];refine zQ zJC (by simp[zB,jG]) (by simp) ?_;simp[mkS,mkB,zB,wd];refine zN g1 [0,1] (by decide) (by simp[mkS,mkB]) (by simp[zB,jH]) ?_;simp[mkS,mkB];refine zN (yC m1 4 11 [a] l3 (by omega) (by omega) l6) [0,1] (by decide) (by simp[mkS,mkB]) (by simp[zJ]) ?_;simp[mkS,mkB];exact zG [0,1] 0 (by decide) (by simp) (by simp) (by simp[zF,zJ])
 ·obtain⟨a,b,m1,m2,g1,g2,k2,k3,k3',k4,k5,k6,hln⟩:=zGv (t:=jG) (u:=jG) (c':=1) hk hx hl2 hc (by omega) he h1 h2 (.int 0) (.int 0) (by omega) (by omega);obtain⟨l1,l2,l3,l4,l5,l6,l7,l8⟩:=hln;obtain⟨rest,hA⟩:∃rest,List.drop (x.tmod 5).toNat [A.lit (.int .i64 0),A.lit (.int .i64 1),A.lit (.int .i64 2),A.lit (.int .i64 3),A.lit (.int .i64 4)]=A.lit (.int .i64 (x.tmod 5))::rest:=by
   have:x.tmod 5=0∨x.tmod 5=1∨x.tmod 5=2∨x.tmod 5=3∨x.tmod 5=4:=by omega
   rcases this with e | e | e | e | e<;>rw[e]<;>exact⟨_,rfl⟩
  have a0:0≤x.tmod 5:=by omega
  have a1:(x.tmod 5).toNat<5:=by omega
  have a1':x.tmod 5<5:=by omega
  refine⟨.mk ⟨0,0,m2.temp⟩ 4 (x.tmod 5) Id.zero Typ.zero [a,b] [],{m2 with temp:=m2.temp+1,left:=m2.left-1},?_,k2.trans (yL _),.arith _ _ _ _ _ a0 (by omega) k3 k3',zE6 k4 k2.temp1,zDh k5 k6⟩;refine zH Tryz.func86 rfl zK6 (rs:=[.cell 10 15 true]) (by kernel_rfl) ?_;unfold zIZ;simp[mkS,mkB,zB,jG,h6,wd];refine zN g1 [0,1] (by decide) (by simp[mkS,mkB]) (by simp[zB]) ?_;simp[mkS,mkB,zB,hA,a0,a1,a1',wd];refine yU g2 [0,1] (by decide) (by simp[mkS,mkB]) (by simp[zB]) (by decide) (by simp) (by simp[mkS]) ?_;simp[mkS,mkB];refine zAn (yC m2 4 (x.tmod 5) [a,b] l3 (by omega) (by omega) l6) [0,1] (by decide) (by simp[mkS,mkB]) (by simp[zJ]) ?_;simp[mkS,mkB,zF,zJ];exact zG [0,1] 0 (by decide) (by simp) (by simp) (by simp[zF,zJ])
set_option maxHeartbeats 4000000 in
theorem zXx {hs:List Hd}{R:Nat}{m:Mk}{env:List Bnd}{c depth:Int}{len:Nat}(hc:0≤c)(hl2:Lim m (2*c+1))(x:Int)(hx0:0≤x)(hx1:x≤65536)
 (hk:zBa hs R c (depth-1) (fun r=>r≤R) len)(hR:1≤R)(hx:Cx hs R m)(he:EnvOk hs R m.temp env)(h1:0<env.length)(h2:env.length≤len)(h3:env.length≤1000)(hd1 : -1000≤depth)(hd2:depth≤1000) :
 zA0 hs m.own opF m [.ptr 0 0,.agg (zB jN),.sl env.length (zM env),int x,int depth] env jN (2*c+1):=by
 have e6:x.tmod 6=x % 6:=tmN hx0;have d6:x.tdiv 6=x / 6:=tdN hx0;have wd:IntKind.i64.wrap (depth-1)=depth-1:=IntWalk.i64_in _ (by omega);have w0:IntKind.i64.wrap 0=0:=IntWalk.i64_in _ (by omega);have w1:IntKind.i64.wrap 1=1:=IntWalk.i64_in _ (by omega);have:x.tmod 6=0∨x.tmod 6=1∨x.tmod 6=2∨x.tmod 6=3∨x.tmod 6=4∨x.tmod 6=5:=by omega
 rcases this with e | e | e | e | e | e
 ·obtain⟨a,m1,g1,k2,k3,k4,k5⟩:=hk m 0 jN env hx (hl2.mono (by omega)) (.bool _) (by omega) he h1 h2;obtain⟨l1,l2,l3,l4,l5,l6,l7,l8⟩:=Lim.adv (c:=c) (c':=1) (hl2.mono (by omega)) k2;refine⟨.mk ⟨0,0,m1.temp⟩ 4 9 Id.zero Typ.zero [a] [],{m1 with temp:=m1.temp+1,left:=m1.left-1},?_,(k2.trans (yL _)).mono (by omega),.not _ _ _ k3,zM2 k4 k2.temp1,zJP k5⟩;refine zH Tryz.func86 rfl zK6 (rs:=[.cell 10 15 true]) (by kernel_rfl) ?_;unfold zIZ;simp[mkS,mkB,zB,jN,e,wd];refine zN g1 [0,1] (by decide) (by simp[mkS,mkB]) (by simp[zB]) ?_;simp[mkS,mkB];refine zN (yC m1 4 9 [a] l3 (by omega) (by omega) l6) [0,1] (by decide) (by simp[mkS,mkB]) (by simp[zJ]) ?_;simp[mkS,mkB];exact zG [0,1] 0 (by decide) (by simp) (by simp) (by simp[zF,zJ])
 ·obtain⟨a,b,m1,m2,g1,g2,k2,k3,k3',k4,k5,k6,hln⟩:=zGv (t:=jG) (u:=jG) (c':=1) hk hx hl2 hc (by omega) he h1 h2 (.int 0) (.int 0) (by omega) (by omega);obtain⟨l1,l2,l3,l4,l5,l6,l7,l8⟩:=hln;refine⟨.mk ⟨0,0,m2.temp⟩ 4 5 Id.zero Typ.zero [a,b] [],{m2 with temp:=m2.temp+1,left:=m2.left-1},?_,k2.trans (yL _),.less _ _ _ _ k3 k3',zE6 k4 k2.temp1,zDh k5 k6⟩;refine zH Tryz.func86 rfl zK6 (rs:=[.cell 10 15 true]) (by kernel_rfl) ?_;unfold zIZ;simp[mkS,mkB,zB,jN,e,wd];refine zN g1 [0,1] (by decide) (by simp[mkS,mkB]) (by simp[zB]) ?_;simp[mkS,mkB,zB,wd];refine yU g2 [0,1] (by decide) (by simp[mkS,mkB]) (by simp[zB]) (by decide) (by simp) (by simp[mkS]) ?_;simp[mkS,mkB];refine zAn (yC m2 4 5 [a,b] l3 (by omega) (by omega) l6) [0,1] (by decide) (by simp[mkS,mkB]) (by simp[zJ]) ?_;simp[mkS,mkB,zF,zJ];exact zG [0,1] 0 (by decide) (by simp) (by simp) (by simp[zF,zJ])
 ·obtain⟨a,b,m1,m2,g1,g2,k2,k3,k3',k4,k5,k6,hln⟩:=zGv (t:=jG) (u:=jG) (c':=1) hk hx hl2 hc (by omega) he h1 h2 (.int 0) (.int 0) (by omega) (by omega);obtain⟨l1,l2,l3,l4,l5,l6,l7,l8⟩:=hln;refine⟨.mk ⟨0,0,m2.temp⟩ 4 6 Id.zero Typ.zero [a,b] [],{m2 with temp:=m2.temp+1,left:=m2.left-1},?_,k2.trans (yL _),.same _ _ _ _ jG k3 k3',zE6 k4 k2.temp1,zDh k5 k6⟩;refine zH Tryz.func86 rfl zK6 (rs:=[.cell 10 15 true]) (by kernel_rfl) ?_;unfold zIZ;simp[mkS,mkB,zB,jN,e,wd];refine zN g1 [0,1] (by decide) (by simp[mkS,mkB]) (by simp[zB]) ?_;simp[mkS,mkB,zB,wd];refine yU g2 [0,1] (by decide) (by simp[mkS,mkB]) (by simp[zB]) (by decide) (by simp) (by simp[mkS]) ?_;simp[mkS,mkB];refine zAn (yC m2 4 6 [a,b] l3 (by omega) (by omega) l6) [0,1] (by decide) (by simp[mkS,mkB]) (by simp[zJ]) ?_;simp[mkS,mkB,zF,zJ];exact zG [0,1] 0 (by decide) (by simp) (by simp) (by simp[zF,zJ])
 ·obtain⟨j,hj,e1⟩:∃j:Nat,j<env.length∧(x.tdiv 6).tmod (env.length:Int)=j:=by
   have q0:0≤x.tdiv 6:=by omega
   have q1:=Int.emod_lt_of_pos (x.tdiv 6) (b:=(env.length:Int)) (by omega);have q2:=Int.emod_nonneg (x.tdiv 6) (b:=(env.length:Int)) (by omega);exact⟨((x.tdiv 6) % env.length).toNat,by omega,by rw[tmN q0]; omega⟩
  have hdr:=zBK hj;have hdr4:List.drop (j*9+4) (zM env)=(zA5 env[j]++zM (env.drop (j+1))).drop 4:=by rw[←List.drop_drop,hdr]
  have hb4:j*9+4+5≤env.length*9:=by omega
  have hne:¬((env.length:Int)=0):=by omega
  have hnil:env≠[]:=fun e=>by rw[e]at h1; simp at h1
  have htu:=he.typs env[j] (List.getElem_mem hj);have w6:IntKind.i64.wrap (x.tdiv 6)=x.tdiv 6:=IntWalk.i64_in _ (by omega);obtain⟨a,b,m1,m2,g1,g2,k2,k3,k3',k4,k5,k6,hln⟩:=zGv (t:=env[j].typ) (u:=env[j].typ) (c':=1) hk hx hl2 hc (by omega) he h1 h2 htu htu (by omega) (by omega);obtain⟨l1,l2,l3,l4,l5,l6,l7,l8⟩:=hln;refine⟨.mk ⟨0,0,m2.temp⟩ 4 6 Id.zero Typ.zero [a,b] [],{m2 with temp:=m2.temp+1,left:=m2.left-1},?_,k2.trans (yL _),.same _ _ _ _ env[j].typ k3 k3',zE6 k4 k2.temp1,zDh k5 k6⟩;refine zH Tryz.func86 rfl zK6 (rs:=[.cell 10 15 true]) (by kernel_rfl) ?_;unfold zIZ;simp[mkS,mkB,zB,jN,e,wd,e1,hne,hnil,hj,hdr4,hb4,zA5,w6];intro _;refine zN g1 [0,1] (by decide) (by simp[mkS,mkB]) (by simp[zB]) ?_;simp[mkS,mkB,zB,wd];refine yU g2 [0,1] (by decide) (by simp[mkS,mkB]) (by simp[zB]) (by decide) (by simp) (by simp[mkS]) ?_;simp[mkS,mkB];refine zAn (yC m2 4 6 [a,b] l3 (by omega) (by omega) l6) [0,1] (by decide) (by simp[mkS,mkB]) (by simp[zJ]) ?_;simp[mkS,mkB,zF,zJ];exact zG [0,1] 0 (by decide) (by simp) (by simp) (by simp[zF,zJ])
 ·obtain⟨a,b,m1,m2,g1,g2,k2,k3,k3',k4,k5,k6,hln⟩:=zGv (t:=jN) (u:=jN) (c':=1) hk hx hl2 hc (by omega) he h1 h2 (.bool 0) (.bool 0) (by omega) (by omega);obtain⟨l1,l2,l3,l4,l5,l6,l7,l8⟩:=hln;refine⟨.mk ⟨0,0,m2.temp⟩ 4 7 Id.zero Typ.zero [a,b] [],{m2 with temp:=m2.temp+1,left:=m2.left-1},?_,k2.trans (yL _),.andor _ _ _ _ _ (.inl rfl) k3 k3',zE6 k4 k2.temp1,zDh k5 k6⟩;refine zH Tryz.func86 rfl zK6 (rs:=[.cell 10 15 true]) (by kernel_rfl) ?_;unfold zIZ;simp[mkS,mkB,zB,jN,e,wd,w0];refine zN g1 [0,1] (by decide) (by simp[mkS,mkB]) (by simp[zB]) ?_;simp[mkS,mkB,zB,wd];refine yU g2 [0,1] (by decide) (by simp[mkS,mkB]) (by simp[zB]) (by decide) (by simp) (by simp[mkS]) ?_;simp[mkS,mkB];refine zAn (yC m2 4 7 [a,b] l3 (by omega) (by omega) l6) [0,1] (by decide) (by simp[mkS,mkB]) (by simp[zJ]) ?_;simp[mkS,mkB,zF,zJ];exact zG [0,1] 0 (by decide) (by simp) (by simp) (by simp[zF,zJ])
 ·obtain⟨a,b,m1,m2,g1,g2,k2,k3,k3',k4,k5,k6,hln⟩:=zGv (t:=jN) (u:=jN) (c':=1) hk hx hl2 hc (by omega) he h1 h2 (.bool 0) (.bool 0) (by omega) (by omega);obtain⟨l1,l2,l3,l4,l5,l6,l7,l8⟩:=hln;refine⟨.mk ⟨0,0,m2.temp⟩ 4 8 Id.zero Typ.zero [a,b] [],{m2 with temp:=m2.temp+1,left:=m2.left-1},?_,k2.trans (yL _),.andor _ _ _ _ _ (.inr rfl) k3 k3',zE6 k4 k2.temp1,zDh k5 k6⟩;refine zH Tryz.func86 rfl zK6 (rs:=[.cell 10 15 true]) (by kernel_rfl) ?_;unfold zIZ;simp[mkS,mkB,zB,jN,e,wd,w1];refine zN g1 [0,1] (by decide) (by simp[mkS,mkB]) (by simp[zB]) ?_;simp[mkS,mkB,zB,wd];refine yU g2 [0,1] (by decide) (by simp[mkS,mkB]) (by simp[zB]) (by decide) (by simp) (by simp[mkS]) ?_;simp[mkS,mkB];refine zAn (yC m2 4 8 [a,b] l3 (by omega) (by omega) l6) [0,1] (by decide) (by simp[mkS,mkB]) (by simp[zJ]) ?_;simp[mkS,mkB,zF,zJ];exact zG [0,1] 0 (by decide) (by simp) (by simp) (by simp[zF,zJ])
set_option maxHeartbeats 2000000 in
theorem zXy {hs:List Hd}{R:Nat}{m:Mk}{env:List Bnd}{c depth:Int}{len:Nat}(hc:0≤c)(hl2:Lim m (2*c+1))(x:Int)(hx0:0≤x)(hx1:x≤65536)
 (hk:zBa hs R c (depth-1) (fun r=>r≤R) len)(hR:1≤R)(hx:Cx hs R m)(he:EnvOk hs R m.temp env)(h1:0<env.length)(h2:env.length≤len)(h3:env.length≤1000)(hd1 : -1000≤depth)(hd2:depth≤1000)(t:Typ)(ht:TyOk hs R (jH t))(h5:x.tmod 2=0) :
 zA0 hs m.own opF m [.ptr 0 0,.agg (zB (jH t)),.sl env.length (zM env),int x,int depth] env (jH t) (2*c+1):=by
 have wd:IntKind.i64.wrap (depth-1)=depth-1:=IntWalk.i64_in _ (by omega);obtain⟨a,b,m1,m2,g1,g2,k2,k3,k3',k4,k5,k6,hln⟩:=zGv (t:=(jH t)) (u:=(jH t)) (c':=1) hk hx hl2 hc (by omega) he h1 h2 ht ht (by omega) (by omega);obtain⟨l1,l2,l3,l4,l5,l6,l7,l8⟩:=hln;refine⟨.mk ⟨0,0,m2.temp⟩ 4 10 Id.zero Typ.zero [a,b] [],{m2 with temp:=m2.temp+1,left:=m2.left-1},?_,k2.trans (yL _),.join _ _ _ _ _ k3 k3',zE6 k4 k2.temp1,zDh k5 k6⟩;refine zH Tryz.func86 rfl zK6 (rs:=[.cell 10 15 true]) (by kernel_rfl) ?_;unfold zIZ;simp[mkS,mkB,zB,jH,h5,wd];refine zN g1 [0,1] (by decide) (by simp[mkS,mkB]) (by simp[zB,jH]) ?_;simp[mkS,mkB,zB,wd];refine yU g2 [0,1] (by decide) (by simp[mkS,mkB]) (by simp[zB,jH]) (by decide) (by simp) (by simp[mkS]) ?_;simp[mkS,mkB];refine zAn (yC m2 4 10 [a,b] l3 (by omega) (by omega) l6) [0,1] (by decide) (by simp[mkS,mkB]) (by simp[zJ]) ?_;simp[mkS,mkB,zF,zJ];exact zG [0,1] 0 (by decide) (by simp) (by simp) (by simp[zF,zJ])
theorem qB6 {hs:List Hd}{R:Nat}{m:Mk}{env:List Bnd}{c depth:Int}{len:Nat}(hc:0≤c)(hl2:Lim m (2*c+1))(x:Int)(hx0:0≤x)(hx1:x≤65536)
 (hk:zBa hs R c (depth-1) (fun r=>r≤R) len)(hR:1≤R)(hx:Cx hs R m)(he:EnvOk hs R m.temp env)(h1:0<env.length)(h2:env.length≤len)(h3:env.length≤1000)(hd1 : -1000≤depth)(hd2:depth≤1000)(t:Typ)(ht:TyOk hs R t)(h4:t.k≠0)(h5:t.k≠1)(h6:t.k≠2∨x.tmod 2≠0)(hl:Lim m (6*c+1)) :
 zA0 hs m.own opF m [.ptr 0 0,.agg (zB t),.sl env.length (zM env),int x,int depth] env t (6*c+1):=by
 have d2:x.tdiv 2=x / 2:=tdN hx0;have w2:IntKind.i64.wrap (x.tdiv 2)=x.tdiv 2:=IntWalk.i64_in _ (by omega);obtain⟨e,m',g1,g2⟩:=zUS hc hl (x.tdiv 2) (by omega) (by omega) t ht (fun r' h=>by omega) hk hx he h1 h2 hd1 hd2;refine⟨e,m',?_,g2⟩;refine zH Tryz.func86 rfl zK6 (rs:=[.cell 10 15 true]) (by kernel_rfl) ?_;unfold zIZ;by_cases h2:t.k=2
 ·have h7:x.tmod 2≠0:=h6.resolve_left (fun h=>h h2);simp[mkS,mkB,zB,h2,h7,w2];refine zN g1 [0,1] (by decide) (by simp[mkS,mkB]) (by simp[zB,h2]) ?_;simp[mkS,mkB];exact zG [0,1] 0 (by decide) (by simp) (by simp) (by simp[zF])
 ·simp[mkS,mkB,zB,h2,h4,h5,w2];refine zN g1 [0,1] (by decide) (by simp[mkS,mkB]) (by simp[zB]) ?_;simp[mkS,mkB];exact zG [0,1] 0 (by decide) (by simp) (by simp) (by simp[zF])
theorem qHL {hs:List Hd}{R:Nat}{m:Mk}{env:List Bnd}{c depth:Int}{len:Nat}(hc:0≤c)(hl:Lim m (7*c+7))(x:Int)(hx0:0≤x)(hx1:x≤65536)
 (hk:zBa hs R c (depth-1) (fun r=>r≤R) len)(hR:1≤R)(hx:Cx hs R m)(he:EnvOk hs R m.temp env)(h1:0<env.length)(h2:env.length≤len)(h3:env.length≤1000)(hd1 : -1000≤depth)(hd2:depth≤1000)(t:Typ)(ht:TyOk hs R t) :
 zA0 hs m.own opF m [.ptr 0 0,.agg (zB t),.sl env.length (zM env),int x,int depth] env t (7*c+7):=by
 have hlit:=fun h4 h5 h6=>(qB6 (hl:=hl.mono (by omega)) hc (hl.mono (by omega)) x hx0 hx1 hk hR hx he h1 h2 h3 hd1 hd2 t ht h4 h5 h6).mono (show 6*c+1≤7*c+7 by omega)
 cases ht with
 | int r=>exact(qB5 hc (hl.mono (by omega)) x hx0 hx1 hk hR hx he h1 h2 h3 hd1 hd2).mono (by omega)
 | bool r=>exact(zXx hc (hl.mono (by omega)) x hx0 hx1 hk hR hx he h1 h2 h3 hd1 hd2).mono (by omega)
 | list r t h =>
  by_cases h5:x.tmod 2=0
  ·exact(zXy hc (hl.mono (by omega)) x hx0 hx1 hk hR hx he h1 h2 h3 hd1 hd2 t (.list _ _ h) h5).mono (by omega)
  ·exact hlit (by simp) (by simp) (.inr h5)
 | dfn r k h h1 h2 h3 h4=>exact hlit (by simp) (by simp) (.inl (by simp))
theorem zXJ {n:Nat}(h:n≤1000000000):w64 (n:Int)=n:=IntWalk.i64_in _ (by omega)
theorem zIh:∀(v:Val),qB v≤100000000→zD6 v=qB v:=by
 intro v h;rw[zKl,zKk];have key:∀i,i≤v.kids.length→zKp (v.kids.take i)=((1+qN (v.kids.take i):Nat):Int):=by
  intro i;induction i with
  | zero=>intro _; simp[zKp,qN]
  | succ i ih =>
   intro hi;have e1:=zFk (l:=v.kids) (i:=i) (by omega);have e2:=zHo v.kids (i+1);have e3:=zKk v;have hk:qB (v.kids[i]'(by omega))<qB v:=zA7 (List.getElem_mem _);rw[zIi (by omega),ih (by omega),zIh (v.kids[i]'(by omega)) (by omega),e1];rw[IntWalk.i64_in _ (by omega)];omega
 have:=key v.kids.length (Nat.le_refl _)
 rwa [List.take_length]at this
termination_by v=>qB v
theorem zES:∀(a b:List Val),yO (a++b)=max (yO a) (yO b)
 | [],b=>by simp[yO]
 | x::a,b=>by simp only[List.cons_append,yO,zES a b]; omega
mutual
theorem zKX:∀(v:Val),zA4 v≤qB v
 | .mk _ _ l=>by simp only[zA4,qB]; have:=zJo l; omega
theorem zJo:∀(l:List Val),yO l≤qN l
 | []=>by simp[yO]
 | v::l=>by simp only[yO,qN]; have:=zKX v; have:=zJo l; omega
end
theorem zJn:∀(v:Val),qB v≤100000000→zCb v=zA4 v:=by
 intro v h;rw[zHB,zHA];have key:∀i,i≤v.kids.length→zJF (v.kids.take i)=((yO (v.kids.take i):Nat):Int):=by
  intro i;induction i with
  | zero=>intro _; simp[zJF,yO]
  | succ i ih =>
   intro hi;have hk:qB (v.kids[i]'(by omega))<qB v:=zA7 (List.getElem_mem _);rw[zHO (by omega),ih (by omega),zJn (v.kids[i]'(by omega)) (by omega),List.take_succ_eq_append_getElem (by omega),zES];simp only[yO,zP8];split<;>omega
 have:=key v.kids.length (Nat.le_refl _);rw[List.take_length]at this;rw[this];have h1:=zKX v;have h2:=zHA v;have:((yO v.kids:Nat):Int)+1=((yO v.kids+1:Nat):Int):=by omega
 rw[this,zXJ (by omega)]
termination_by v=>qB v
def zZN:K:=G [kO 6 1,kZ 10 kz1] (G [M 16 0,M 17 3,kC 18 118 [(kt 16),(kc 1),(kt 17)],M 11 18] (Z (G [M 19 11,kBi 20 19 0 .lss] (Y 20 (G [M 21 0,J 22 6 5,M 23 2,M 24 3,M 25 4,kC 26 86 [(kt 21),(kt 22),(kt 23),(kt 24),(kt 25)],S 10 26 15] kr) ks)) (G [M 27 0,kU 28 27,D 29 28 0,D 30 29 1,L 31 30 1,M 32 11,kX 33 31 32 31,J 34 33 31,kZ 12 kz0,S 12 34 31] (G [M 35 0,D 36 12 0,J 37 36 3,kC 38 72 [(kt 37)],M 39 2,M 40 4,kBi 41 40 2 .sub,kC 42 34 [(kt 35),(kt 38),(kt 39),(kt 41)],⟨none,.brow (some 43) 37 15 1 kz1 [(0,15,(kt 42))]⟩,M 13 43] (G [M 44 0,kC 45 80 [(kt 44),(kc 10),(kc 0),(.const kl)],kZ 14 kz1,S 14 45 15] (G [D 46 12 0,J 47 46 3,D 48 14 5,S 48 47 3] (Z (G [kMi 15 0] (K.block 0 (K.loop (Z (G [M 49 15,D 50 12 8,L 51 50 1,kN 52 51,kB 53 49 52 .lss] (Y 53 ks (K.exit 0))) (Z (K.block 1 (Z (K.dops [(0,0,M 56 13),(1,0,M 57 0),(2,0,J 58 6 5),(3,0,M 59 2),(4,0,D 60 14 0),(5,0,J 61 60 3),(6,0,M 62 15),(7,0,D 63 12 8),(8,0,L 64 63 1),(9,0,M 65 15),(10,0,kX 66 64 65 11),(11,0,D 67 66 4),(12,0,J 68 67 5),(13,0,kb 69 kz7 [(0,3,(kt 61)),(3,1,(kt 62)),(4,5,(kt 68))]),(14,0,kC 70 82 [(kt 59),(kt 69)]),(15,0,M 71 4),(16,0,kBi 72 71 1 .sub),(17,4,kC 73 34 [(kt 57),(kt 58),(kt 70),(kt 72)]),(18,0,kd 74 37 15 1 kz1 [(0,15,(kt 73))]),(19,0,kP 75 37 15 168 56 74),(20,0,M 13 75)]) (K.dops [(0,2,D 76 14 14),(1,2002,L 77 76 1),(2,0,M 78 0),(3,1002,kC 79 81 [(kt 78)]),(4,0,⟨none,.bslice (some 80) 9 1 1 [(.string ⟨#[]⟩)] [(0,1,(kt 79))]⟩),(5,0,kP 81 9 1 16 77 80),(6,2,D 82 14 14),(7,0,
 S 82 81 1)]))) (K.ops [M 54 15,kBi 55 54 1 .add,M 15 55])))))) (Z (K.wk (K.ops [M 83 13,D 84 14 13,S 84 83 1])) (G [J 85 14 15,S 10 85 15] kr)))))))))
def qNx:Nat→Option (List (Nat×Nat)):=fun r=>match r with | 11=>some [(0,0),(1,0),(2,0),(3,0),(4,0),(5,0),(6,0),(7,0),(8,0),(9,0),(10,0),(11,0),(12,0),(13,0),(14,0),(15,0),(16,0),(17,4),(18,0),(19,0),(20,0)] | 12=>some [(0,2),(1,2002),(2,0),(3,1002),(4,0),(5,0),(6,2),(7,0)] | _=>none
theorem qFO:qC Tryz.prog Tryz.f83.ntmps qNx (Tryz.f83.body.getD .skip)=some zZN.erase:=by kernel_rfl
@[simp] theorem qMe:zA Tryz.prog 83=true:=by kernel_rfl
abbrev zP7:FuncId:=83
theorem zUZ (m:Mk)(kind n:Int)(h0:0≤m.temp)(h1:m.temp≤1000000000000000)(h2 : -1000000000000000≤m.left)(h3:m.left≤1000000000000000) :
 Ret Tryz.prog 80 [.ptr 0 0,int kind,int n,.sl 0 []] (mkS m) (.agg [int 0,int 0,int m.temp,int kind,int n,int 0,int 0,int 0,int 0,int 0,int 0,int 0,.nil,.sl 0 [],.nil]) (mkS {m with temp:=m.temp+1,left:=m.left-1}):=by
 refine zI Tryz.func80 rfl zYE (rs:=[.cell 8 15 true]) (by kernel_rfl) ?_;unfold zSY;have w1:IntKind.i64.wrap (m.temp+1)=m.temp+1:=IntWalk.i64_in _ (by omega);have w2:IntKind.i64.wrap m.temp=m.temp:=IntWalk.i64_in _ (by omega);have w3:IntKind.i64.wrap (m.left-1)=m.left-1:=IntWalk.i64_in _ (by omega);simp[mkS,mkB,w1,w2,w3];exact zG [0,1] 0 (by decide) (by simp) (by simp) (by simp)
def zPU (hd:Hd)(j:Nat):Typ:=match hd.slots[j]? with
 | some s=>s.typ
 | none=>jG
theorem zRb {hd:Hd}{j:Nat}(h:j<hd.slots.length):zPU hd j=hd.slots[j].typ:=by unfold zPU; rw[List.getElem?_eq_getElem h]
theorem zXC {hs:List Hd}{R:Nat}{hd:Hd}(h:∀s∈hd.slots,TyOk hs R s.typ)(j:Nat):TyOk hs R (zPU hd j):=by
 unfold zPU;split
 ·rename_i s hs;exact h s (List.mem_of_getElem? hs)
 ·exact .int _
set_option maxHeartbeats 4000000 in
theorem zNI {hs:List Hd}{R:Nat}{m:Mk}{env:List Bnd}{c depth:Int}{len:Nat}(hc:0≤c)(hl:Lim m (7*c+7))(x:Nat)(hx1:x≤65536)(hk:zBa hs R c (depth-1) (fun r=>r≤R) len)(hk2:zBa hs R c (depth-2) (fun r=>r≤R) len)
 (hx:Cx hs R m)(he:EnvOk hs R m.temp env)(h1:0<env.length)(h2:env.length+1≤len)(h3:env.length≤1000)(hd1 : -1000≤depth)(hd2:depth≤1000)(t:Typ)(ht:TyOk hs R t)
 (hop:zA0 hs m.own opF m [.ptr 0 0,.agg (zB t),.sl env.length (zM env),int x,int depth] env t (7*c+7)) :
 zA0 hs m.own zP7 m [.ptr 0 0,.agg (zB t),.sl env.length (zM env),int x,int depth] env t (7*c+7):=by
 have hdl:=hx.dlen;have hd100:=hx.len;have hd0:=hx.len0;have wd:IntKind.i64.wrap (depth-1)=depth-1:=IntWalk.i64_in _ (by omega);have wd2:IntKind.i64.wrap (depth-2)=depth-2:=IntWalk.i64_in _ (by omega);rcases zXu m 1 x with hof | ⟨k,hkm,hof,hkind,hvis⟩
 ·obtain⟨e,m',g1,g2⟩:=hop;refine⟨e,m',?_,g2⟩;refine zH Tryz.func83 rfl qFO (rs:=[.cell 10 15 true]) (by kernel_rfl) ?_;unfold zZN;simp[mkS,mkB,zB];refine zN (zVf m 1 x (by omega) (by omega) (by omega) hx.mods) [0,1] (by decide) (by simp[mkS,mkB]) (by simp) ?_;simp[mkS,mkB,hof];refine zN g1 [0,1] (by decide) (by simp[mkS,mkB]) (by simp[zB]) ?_;simp[mkS,mkB];exact zG [0,1] 0 (by decide) (by simp) (by simp) (by simp[zF])
 ·have hks:k<hs.length:=by omega
  have hget:=hx.get hkm;generalize hD:m.defs[k]=D at hget hkind;have eid:hs[k].id=D.id:=by rw[hget]; rfl
  have eslots:hs[k].slots=D.slots:=by rw[hget]; rfl
  have ekind:hs[k].kind=1:=by rw[hget]; exact hkind
  obtain⟨hs6,hsT⟩:=hx.slots k hks;have hDl:D.slots.length≤6:=by rw[←eslots]; exact hs6
  obtain⟨a,m1,g1,g2,g3,g4,g5⟩:=hk2 m R (zAy hs[k].id) env hx (hl.mono (by omega)) (hx.typs k hks (.inr ekind)) (Nat.le_refl _) he h1 (by omega);have hl1:Lim m1 (6*c+7):=Lim.adv (c:=c) (hl.mono (by omega)) g2;obtain⟨l1,l2,l3,l4,l5,l6,l7,l8⟩:=hl1;obtain⟨mA,hmA⟩:∃mA:Mk,mA={m1 with temp:=m1.temp+1,left:=m1.left-1}:=⟨_,rfl⟩;have aA:Adv m1 mA 1:=hmA▸yL m1;have tA:mA.temp=m1.temp+1:=by rw[hmA]
  have hlA:Lim mA (6*c+6):=Lim.adv (c:=1) ⟨l1,by omega,l3,by omega,by omega,l6,l7,by omega⟩ aA;have hsc:((D.slots.length:Int))*(c+1)≤6*(c+1):=Int.mul_le_mul_of_nonneg_right (by omega) (by omega);obtain⟨es,ns,ms,q0,q1,q2,q3,q4,q5⟩:=zUK hk hc (fun j=>env++[⟨⟨0,0,m1.temp⟩,j,zPU hs[k] j⟩]) t ht (Nat.le_refl R) mA ((hx.adv g2).adv aA)
   (fun j=>((he.mono g2.temp1).mono aA.temp1).snoc m1.temp j _ (zXC hsT j) (fun b hb e=>by have hb':=he.new b hb (by rw[e]);rw[e]at hb';have:=g2.temp1;simp only at hb';omega) (by omega)) (fun j=>by simp) (fun j=>by simp; omega) D.slots.length (hlA.mono (by omega))
  have aE:=q3 D.slots.length (Nat.le_refl _);have eown:mA.own=m.own:=aA.own.trans g2.own;refine⟨.mk ⟨0,0,m1.temp⟩ 10 0 hs[k].id Typ.zero (a::es) ns,ms D.slots.length,?_,((g2.trans aA).trans aE).mono (by omega),?_,?_,zCd ?_⟩
  rotate_left
  ·refine .mtch _ _ k hks a es t ns (by omega) ekind (by rw[eslots,q0]) g3 fun j hj=>?_
   have:=(q5 j hj (by omega)).elim fun mm h=>h.2.2.1
   rw[eown,zRb (by rw[eslots]; omega)]at this;exact this
  ·simp only[tmps,jA];have s1:Seg m1.temp (m1.temp+1) [m1.temp]:=Seg.one _;have s2:=s1.append (b:=m1.temp+1) (tA▸q4) (by omega) (tA▸aE.temp1);have s3:=g4.append s2 g2.temp1 (by have:=aE.temp1; omega);refine s3.perm ?_;rw[List.append_assoc];exact List.Perm.append_left _ List.perm_append_comm
  ·intro e' he';rcases List.mem_cons.1 he' with rfl | he'
   ·exact g5
   ·exact zHf rfl (fun j hj=>(q5 j hj (by omega)).elim fun mm h=>h.2.2.2) e' he'
  refine zH Tryz.func83 rfl qFO (rs:=[.cell 10 15 true]) (by kernel_rfl) ?_;unfold zZN;have hdr:=jV hkm;rw[hD]at hdr;have hb31:k*31+31≤m.defs.length*31:=by omega
  have hnk:¬((k:Int)<0):=by omega
  simp[mkS,mkB,zB];refine zN (zVf m 1 x (by omega) (by omega) (by omega) hx.mods) [0,1] (by decide) (by simp[mkS,mkB]) (by simp) ?_;simp[mkS,mkB,hof,hnk,hkm,hdr,hb31,zO];refine zQ (zL6 D.id) (by simp[qF]) (by simp) ?_;simp[mkS,mkB,wd2];rw[eid]at g1;refine zN g1 [0,1] (by decide) (by simp[mkS,mkB]) (by simp[zB,zAy]) ?_;simp[mkS,mkB];refine zN (zUZ m1 10 0 l3 (by omega) (by omega) l6) [0,1] (by decide) (by simp[mkS,mkB]) (by simp) ?_;simp[mkS,mkB,zO];refine qY (S:=Nat) (fun i=>[(0,.ptr 0 0),(2,.sl env.length (zM env)),(4,int depth),(6,.ptr 2 0),(10,.ptr 3 0),(12,.ptr 4 0),(13,.row 5 (i+1)),(14,.ptr 6 0),(15,int i)])
   (fun i=>mkS (ms i)++[.box (zB t),.box (zF Exp.zero),.box (zO D),.row false 37 15 (i+1) (zF a++qU (es.take i)),.box [int 0,int 0,int m1.temp,int 10,int 0,int D.id.a,int D.id.b,int D.id.c,int 0,int 0,int 0,int 0,.sl 0 [],.sl 0 [],.row 7 i],.row false 9 1 i (yT (ns.take i))]) (fun i=>i≤es.length) (fun i=>es.length-i) 0 (by simp)
   ((zAa (l:=6) (o:=14) rfl rfl 9 1).trans (zR [0,1,2,3,4,5,6,7] 0 (by decide) (by simp) (by simp[mkS,mkB,zB,q2,hmA,zF,Exp.zero,Id.zero,Typ.zero,zO]) (by simp))) ?_
  intro i hi;by_cases hi2:i<es.length
  ·have hid:i<D.slots.length:=by omega
   have hin:i<ns.length:=by omega
   obtain⟨mm,g1',g2',_,_⟩:=q5 i hi2 hin;have hsty:zPU hs[k] i=D.slots[i].typ:=by rw[zRb (by rw[eslots]; exact hid)]; simp only[eslots]
   have hst:qU (es.take (i+1))=qU (es.take i)++zF es[i]:=zAd hi2;have hsn:yT (ns.take (i+1))=yT (ns.take i)++zUj ns[i]:=by unfold yT; rw[List.take_succ_eq_append_getElem hin,List.flatMap_append]; simp
   have hw:IntKind.i64.wrap ((i:Int)+1)=(i:Int)+1:=IntWalk.i64_in _ (by omega);have hdS:List.drop (i*11+4) (jT D.slots)=(zAi D.slots[i]++jT (D.slots.drop (i+1))).drop 4:=by rw[←List.drop_drop,jP hid]
   have hbS:i*11+4+5≤D.slots.length*11:=by omega
   simp[mkS,mkB,zO,zB,hid,hdS,hbS,zAi,wd];intro _;refine qO (zC6 env ⟨⟨0,0,m1.temp⟩,i,zPU hs[k] i⟩ (by omega)) (by simp[zA5,hsty]) (by simp) ?_;simp[mkS,mkB,wd];refine zAn g1' [0,1] (by decide) (by simp[mkS,mkB]) (by simp[zB]) ?_;simp[mkS,mkB];refine⟨⟨by simp[maxLen]; omega,by omega⟩,?_⟩;refine yU g2' [0,1] (by decide) (by simp[mkS,mkB]) (by simp) (by decide) (by simp) (by simp[mkS]) ?_;simp[mkS,mkB];refine⟨⟨by simp[maxLen]; omega,by omega⟩,?_⟩;exact zT (i+1) hi2 (by omega) (zR [0,1,2,3,4,5,6,7] 0 (by decide) (by simp) (by simp[mkS,mkB,zB,zF,Exp.zero,Id.zero,Typ.zero,zO,hst,hsn,zUj]) (by simp[hw]))
  ·have hie:i=es.length:=by omega
   subst hie;have hid:¬es.length<D.slots.length:=by omega
   have hnl:List.take es.length ns=ns:=List.take_of_length_le (by omega);simp[mkS,mkB,zO,hid];intro _;refine⟨qR [(0,.ptr 0 0),(10,.ptr 3 0),(13,.sl (es.length+1) (qU (a::es))),(14,.ptr 4 0)],mkS (ms es.length)++[.box (zB t),.box (zF Exp.zero),.box [int 0,int 0,int m1.temp,int 10,int 0,int D.id.a,int D.id.b,int D.id.c,int 0,int 0,int 0,int 0,.sl 0 [],.sl 0 [],.sl es.length (yT ns)]],zR [0,1,2,3,6] 1 (by decide) (by simp) (by simp[mkS,mkB,zB,zF,Exp.zero,Id.zero,Typ.zero,hnl]) (by simp[zJ]),?_⟩;simp[mkS,mkB];exact zG [0,1] 0 (by decide) (by simp) (by simp[q0]) (by simp[zF,Id.zero,Typ.zero,eid,q0,q1])
end Go.Proofs.YthglhccibdlccaaGreatDoor
