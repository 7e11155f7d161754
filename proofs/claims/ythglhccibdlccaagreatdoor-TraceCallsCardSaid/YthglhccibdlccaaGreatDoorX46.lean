/-
  The reference's evaluator: lists of nodes, bodies.
  The reference's tracer: values.
  The reference: the names in types, and what they reach.
-/
import Derived.Test.YthglhccibdlccaaGreatDoorX41
import Derived.Test.YthglhccibdlccaaGreatDoorX44
import Derived.Test.YthglhccibdlccaaGreatDoorX45
import Derived.Test.YthglhccibdlccaaGreatDoorX43
import Derived.Test.YthglhccibdlccaaGreatDoorX35
set_option linter.unusedVariables false
set_option linter.unusedSimpArgs false
namespace Go.Proofs.YthglhccibdlccaaGreatDoor
open Go.Abs
def uS (p:Prg)(F:Int)(s:XS):St:=[.box (zQ p++[int F,int (F-s.fuel),int s.fail])]
abbrev UOk (p:Prg)(F:Int)(r:Val×XS)(e:Exp)(V:List EVar)(s:XS):Prop:=Ret Tryz.prog 137 [.ptr 0 0,.agg (zH e),.sl V.length (jQ V)] (uS p F s) (.agg (zI r.1)) (uS p F r.2)
structure UIh (p:Prg)(F:Int)(c:Nat)(m:Int)(ev:Evl):Prop where
 stop:zFb ev
 snd:Snd p ev
 bd:∀e V s,Bn c m s→Bd c m (ev e V s).2
 ok:∀e V s,Adm p e V s→Bn c m s→V.length+2*m≤100000→UOk p F (ev e V s) e V s
@[simp] theorem qNB:zC Tryz.prog 137=true:=by kernel_rfl
@[simp] theorem qOt:zC Tryz.prog 158=true:=by kernel_rfl
@[simp] theorem qM3:zC Tryz.prog 99=true:=by kernel_rfl
section
variable {p:Prg}{F:Int}{c:Nat}{m:Int}{ev:Evl}{e:Exp}{V:List EVar}{s:XS}
def qJn:K:=G [kMn 6] (G [kMn 7] (Z (G [kMi 8 0] (K.block 0 (K.loop (Z (G [M 9 8,M 10 1,kN 11 10,kB 12 9 11 .lss] (Y 12 ks (K.exit 0))) (Z (K.block 1 (K.ops [M 15 7,M 16 0,M 17 1,M 18 8,kX 19 17 18 15,J 20 19 15,M 21 2,kC 22 137 [(kt 16),(kt 20),(kt 21)],kd 23 47 3 1 [ki,ki,kl] [(0,3,(kt 22))],kP 24 47 3 40 15 23,M 7 24])) (K.ops [M 13 8,kBi 14 13 1 .add,M 8 14])))))) (G [M 25 7,M 6 25] kr)))
theorem qM9:zN Tryz.prog Tryz.f175.ntmps (Tryz.f175.body.getD .skip)=some qJn.erase:=by kernel_rfl
@[simp] theorem qOJ:zC Tryz.prog 175=true:=by kernel_rfl
set_option maxHeartbeats 1000000 in
theorem zHu (h:UIh p F c m ev)(ks:List Exp)(hk6:ks.length≤32768)(hA:∀k∈ks,∀s,Adm p k V s)(hB:Bd c m s)(hV:V.length+2*m≤100000) :
 Ret Tryz.prog 175 [.ptr 0 0,.sl ks.length (qR ks),.sl V.length (jQ V)] (uS p F s) (.sl (qN ev V ks s).1.length (zZ (qN ev V ks s).1)) (uS p F (qN ev V ks s).2):=by
 have hP:=eP p;refine zK Tryz.func175 rfl qM9 (rs:=[.slot 6]) (by kernel_rfl) ?_;unfold qJn;have hst:∀i,Bd c m (qN ev V (ks.take i) s).2:=fun i=>zDD h.bd V _ _ hB
 have hln:∀i,i≤ks.length→(qN ev V (ks.take i) s).1.length=i:=fun i hi=>by rw[zCQ,List.length_take]; omega
 have h00:qN ev V [] s=([],s):=rfl;simp[uS,hP];refine qP (S:=Nat) (fun i=>[(0,.ptr 0 0),(1,.sl ks.length (qR ks)),(2,.sl V.length (jQ V)),(7,.row 1 i),(8,int i)])
  (fun i=>uS p F (qN ev V (ks.take i) s).2++[.row false 47 3 i (zZ (qN ev V (ks.take i) s).1)]) (fun i=>i≤ks.length) (fun i=>ks.length-i) 0 (by simp)
  ((jZ (t:=7) (by simp) 47 3).trans (zV [0,1] 0 (by decide) (by simp) (by simp[uS,hP,h00]) (by simp))) ?_
 intro i hi;by_cases hil:i<ks.length
 ·have hr:=h.ok ks[i] V (qN ev V (ks.take i) s).2 (hA _ (List.getElem_mem hil) _) (hst i).bn hV;have hsn:=zFD ev V ks[i] (ks.take i) s;rw[←List.take_succ_eq_append_getElem hil]at hsn;have hdr:=yE hil;have hln:=hln i hi;have hw:IntKind.i64.wrap ((i:Int)+1)=(i:Int)+1:=IntWalk.i64_in _ (by omega);generalize hFn:qN ev V (ks.take (i+1)) s=Fn at hsn;subst hsn;generalize hFi:qN ev V (ks.take i) s=Fi at *
  obtain⟨vs,si⟩:=Fi;simp only at *
  generalize ev ks[i] V si=rk at *
  obtain⟨v,sk⟩:=rk;simp only at *
  simp[uS,hP,hil,hdr,hFi,zH];intro _;refine zM hr [0] (by decide) (by simp[uS,hP]) (by simp[zH]) ?_;simp[uS,hP,zI];refine⟨⟨by simp[maxLen]; omega,by omega⟩,?_⟩;exact zW (i+1) hil (by omega) (zV [0,1] 0 (by decide) (by simp) (by simp[uS,hP,hFn,zAN]) (by simp[hw]))
 ·have hil:i=ks.length:=by omega
  subst hil;have htk:ks.take ks.length=ks:=List.take_length;have hln:=hln _ (Nat.le_refl _);rw[htk]at hln ⊢;generalize qN ev V ks s=F at *
  obtain⟨vs,si⟩:=F;simp only at *
  simp[uS,hP];exact fun _=>zF [0] 1 (by decide) (by simp) (by simp) (by simp[hln])
def qFi:K:=G [kO 4 1,kZ 6 [ki,ki,kl]] (G [kMn 7] (Z (G [kMi 8 0] (K.block 0 (K.loop (Z (G [M 9 8,D 10 4 8,L 11 10 1,kN 12 11,kB 13 9 12 .lss,M 14 13,T 14 true (M 15 8),T 14 true (M 16 2),T 14 true (kN 17 16),T 14 true (kB 18 15 17 .lss),kPf 19 14 18] (Y 19 ks (K.exit 0))) (Z (K.block 1 (K.dops [(0,0,M 22 7),(1,0,D 23 4 8),(2,0,L 24 23 1),(3,0,M 25 8),(4,0,kX 26 24 25 11),(5,0,D 27 26 0),(6,0,J 28 27 3),(7,0,M 29 2),(8,0,M 30 8),(9,0,kX 31 29 30 3),(10,0,J 32 31 3),(11,0,kC 33 101 [(kt 22),(kt 28),(kc 0),(kt 32)]),(12,0,M 7 33)])) (K.ops [M 20 8,kBi 21 20 1 .add,M 8 21])))))) (G [M 34 0,D 35 4 14,J 36 35 15,M 37 7,kC 38 137 [(kt 34),(kt 36),(kt 37)],S 6 38 3] kr)))
theorem qOM:zN Tryz.prog Tryz.f99.ntmps (Tryz.f99.body.getD .skip)=some qFi.erase:=by kernel_rfl
@[simp] theorem qMf:zC Tryz.prog 99=true:=by kernel_rfl
set_option maxHeartbeats 1000000 in
theorem zO6 (h:UIh p F c m ev)(hc:c≤100000)(d:Dfn)(vs:List Val)(hvl:vs.length≤1000000)(hd6:d.slots.length≤6)
 (hA:s.fail=0→Adm p d.body (yV d.slots vs) {s with ds:=s.ds++[d.id]})(hm:6+2*m≤100000)(hB:Bd c m s) :
 Ret Tryz.prog 99 [.ptr 0 0,.agg (zP d),.sl vs.length (zZ vs)] (uS p F s) (.agg (zI (zAl ev d vs s).1)) (uS p F (zAl ev d vs s).2):=by
 have hP:=eP p;have hel:(yV d.slots vs).length≤d.slots.length:=by simp[yV]; omega
 have hlen:(yV d.slots vs).length=min d.slots.length vs.length:=by simp[yV]
 obtain⟨s1,hs1,he⟩:∃s1:XS,uS p F s=uS p F s1∧UOk p F (zAl ev d vs s) d.body (yV d.slots vs) s1:=by
  by_cases hf:s.fail=0
  ·refine⟨{s with ds:=s.ds++[d.id]},rfl,?_⟩;have hx:zAl ev d vs s=ev d.body (yV d.slots vs) {s with ds:=s.ds++[d.id]}:=by unfold zAl; rw[if_neg (by simp[hf])]
   rw[hx];exact h.ok _ _ _ (hA hf) (hB.def d.id hf) (by omega)
  ·refine⟨s,rfl,?_⟩;have hx:zAl ev d vs s=ev d.body (yV d.slots vs) s:=by unfold zAl; rw[if_pos hf,h.stop _ _ _ hf]
   rw[hx];exact h.ok _ _ _ (.bad hf) hB.bn (by omega)
 rw[hs1];generalize zAl ev d vs s=r at *
 refine zK Tryz.func99 rfl qOM (rs:=[.cell 6 3 true]) (by kernel_rfl) ?_;unfold qFi;simp[uS,hP,zP];have h0:jQ []=[]:=rfl;refine qP (S:=Nat) (fun i=>[(0,.ptr 0 0),(2,.sl vs.length (zZ vs)),(4,.ptr 1 0),(6,.ptr 2 0),(7,.sl i (jQ ((yV d.slots vs).take i))),(8,int i)])
  (fun i=>uS p F s1++[.box (zP d),.box [int 0,int 0,.nil]]) (fun i=>i≤(yV d.slots vs).length) (fun i=>(yV d.slots vs).length-i) 0 (by simp)
  (zV [0,1,2] 0 (by decide) (by simp) (by simp[uS,hP,zP]) (by simp[h0])) ?_
 intro i hi;have hw:IntKind.i64.wrap ((i:Int)+1)=(i:Int)+1:=IntWalk.i64_in _ (by omega);by_cases hil:i<(yV d.slots vs).length
 ·have his:i<d.slots.length:=by omega
  have hiv:i<vs.length:=by omega
  have hdr:=qZ his;have hdv:=qY hiv;have htk:(yV d.slots vs).take (i+1)=(yV d.slots vs).take i++[⟨d.slots[i].id,0,vs[i]⟩]:=by rw[List.take_succ_eq_append_getElem hil];simp[yV]
  have hwi:=zBT ((yV d.slots vs).take i) ⟨d.slots[i].id,0,vs[i]⟩ (by simp; omega);rw[←htk,List.length_take,Nat.min_eq_left hi]at hwi;simp[uS,hP,zP,his,hiv,hdr,hdv,yZ]
  intros
  refine qI hwi (by simp[qL,zI]) (by simp) ?_;simp;exact zW (i+1) hil (by omega) (zV [0,1,2] 0 (by decide) (by simp) (by simp[uS,hP,zP]) (by simp[hw]))
 ·have hie:i=(yV d.slots vs).length:=by omega
  subst hie;rw[List.take_length];have hno:¬((yV d.slots vs).length<d.slots.length∧(yV d.slots vs).length<vs.length):=by omega
  by_cases c1:(yV d.slots vs).length<d.slots.length
  ·have c2:¬(yV d.slots vs).length<vs.length:=fun h=>hno ⟨c1,h⟩
   simp[uS,hP,zP,c1,c2]
   intros
   refine zM he [0] (by decide) (by simp[uS,hP]) (by simp[zH]) ?_;simp[uS,hP,zI];exact zF [0] 0 (by decide) (by simp) (by simp) (by simp[zI])
  ·simp[uS,hP,zP,c1]
   intros
   refine zM he [0] (by decide) (by simp[uS,hP]) (by simp[zH]) ?_;simp[uS,hP,zI];exact zF [0] 0 (by decide) (by simp) (by simp) (by simp[zI])
end
section
variable {p:Prg}{c:Nat}{m:Int}{ev:Evl}{e:Exp}{V:List EVar}{s:XS}
def zGs:K:=G [kO 4 1,kZ 6 [ki,ki,kl]] (Z (G [D 14 4 3,L 15 14 1] (K.block 0 (G [kQi 17 15 0 false,M 16 17] (Y 16 (G [D 18 4 4,L 19 18 1,kb 20 [ki,ki,kl] [(1,1,(kt 19))],S 6 20 3] kr) (G [kQi 22 15 1 false,M 21 22] (Y 21 (G [D 23 4 4,L 24 23 1,kb 25 [ki,ki,kl] [(0,1,(kc 1)),(1,1,(kt 24))],S 6 25 3] kr) (G [kQi 27 15 2 false,M 26 27] (Y 26 (G [M 28 2,D 29 4 5,J 30 29 3,D 31 4 4,L 32 31 1,kC 33 159 [(kt 28),(kt 30),(kt 32)],S 6 33 3] kr) (G [kQi 35 15 3 false,M 34 35] (Y 34 (G [M 36 0,D 37 4 13,L 38 37 1,M 39 2,kC 40 160 [(kt 36),(kt 38),(kt 39)],M 7 40] (Z (K.dops [(0,0,M 42 0),(1,0,kU 43 42),(2,1,D 44 43 0),(3,1,J 45 44 2),(4,1,D 46 4 5),(5,1,J 47 46 3),(6,1,kC 48 26 [(kt 45),(kt 47)]),(7,0,M 41 48),(8,0,kE 49 41 0),(9,0,kE 50 41 1),(10,0,kZ 8 kz0),(11,0,S 8 49 31),(12,0,M 9 50)]) (G [M 51 0,J 52 8 31,M 53 7,kC 54 51 [(kt 51),(kt 52),(kt 53)],S 6 54 3] kr))) (G [kQi 56 15 7 false,M 55 56] (Y 55 (G [M 57 0,D 58 4 13,L 59 58 1,M 60 2,kC 61 160 [(kt 57),(kt 59),(kt 60)],kb 62 [ki,ki,kl] [(0,1,(kc 2)),(2,1,(kt 61))],S 6 62 3] kr) (G [kQi 64 15 9 false,M 63 64] (Y 63 (Z (K.dops [(0,2,D 65 4 4),(1,2001,L 66 65 1),(2,0,M 67 0),(3,0,D 68 4 13),(4,0,L 69 68 1),(5,0,M 70 2),(6,1001,kC 71 160 [(kt 67),(kt 69),(kt 70)]),(7,0,kb 72 [ki,ki,kl] [(0,1,(kc 3)),(1,1,(kt 66)),(2,1,(kt 71))]),(8,0,S 6 72 3)]) kr) (G [kQi 74 15 11 false,M 73 74] (Y 73 (G [M 75 0,D 76 4 13,L 77 76 1,M 78 2,kC 79 160 [(kt 75),(kt 77),(kt 78)],kb 80 [ki,ki,kl] [(0,1,(kc 4)),(2,1,(kt 79))],S 6 80 3] kr) (G [kQi 82 15 4 false,
 M 81 82] (Y 81 (G [M 83 0,D 84 4 13,L 85 84 1,M 86 2,kC 87 160 [(kt 83),(kt 85),(kt 86)],M 10 87] (Z (G [M 88 0,kU 89 88,D 90 89 3,L 91 90 1,kQi 92 91 0 true] (Y 92 (G [kb 93 [ki,ki,kl] [],S 6 93 3] kr) ks)) (G [D 94 4 4,L 95 94 1,M 96 10,kC 97 161 [(kt 95),(kt 96)],S 6 97 3] kr))) ks)))))))))))))))))) (G [M 98 0,D 99 4 13,L 100 99 1,kXi 101 100 15 0,J 102 101 15,M 103 2,kC 104 102 [(kt 98),(kt 102),(kt 103)],kZ 11 [ki,ki,kl],S 11 104 3] (Z (G [M 105 0,kU 106 105,D 107 106 3,L 108 107 1,kQi 109 108 0 true] (Y 109 (G [kb 110 [ki,ki,kl] [],S 6 110 3] kr) ks)) (Z (G [D 111 4 3,L 112 111 1] (K.block 1 (G [kQi 114 112 5 false,M 113 114] (Y 113 (G [M 115 0,D 116 4 13,L 117 116 1,D 118 11 1,L 119 118 1,⟨none,.bin (some 120) .sub (kc 2) (kt 119)⟩,kX 121 117 120 15,J 122 121 15,M 123 2,kC 124 102 [(kt 115),(kt 122),(kt 123)],S 6 124 3] kr) (G [kQi 126 112 6 false,M 125 126] (Y 125 (Z (K.dops [(0,0,M 127 0),(1,0,D 128 4 13),(2,0,L 129 128 1),(3,0,kXi 130 129 15 1),(4,0,J 131 130 15),(5,0,M 132 2),(6,0,D 133 4 0),(7,0,J 134 133 3),(8,0,J 135 11 3),(9,0,kC 136 101 [(kt 132),(kt 134),(kc 0),(kt 135)]),(10,4,kC 137 102 [(kt 127),(kt 131),(kt 136)]),(11,0,S 6 137 3)]) kr) (G [kQi 139 112 8 false,M 138 139] (Y 138 (G [D 140 11 2,L 141 140 1,D 142 4 4,L 143 142 1,kX 144 141 143 3,J 145 144 3,S 6 145 3] kr) (G [kQi 147 112 10 false,M 146 147] (Y 146 (Z (K.dops [(0,0,M 148 0),(1,0,D 149 4 13),(2,0,L 150 149 1),(3,0,D 151 11 1),(4,0,
 L 152 151 1),(5,0,⟨none,.bin (some 153) .add (kc 1) (kt 152)⟩),(6,0,kX 154 150 153 15),(7,0,J 155 154 15),(8,0,M 156 2),(9,0,D 157 4 0),(10,0,J 158 157 3),(11,0,D 159 11 1),(12,0,L 160 159 1),(13,0,D 161 11 2),(14,0,L 162 161 1),(15,0,kXi 163 162 3 0),(16,0,J 164 163 3),(17,0,kC 165 101 [(kt 156),(kt 158),(kt 160),(kt 164)]),(18,4,kC 166 102 [(kt 148),(kt 155),(kt 165)]),(19,0,S 6 166 3)]) kr) ks)))))))))) (G [M 167 0,D 168 4 13,L 169 168 1,kXi 170 169 15 1,J 171 170 15,M 172 2,kC 173 102 [(kt 167),(kt 171),(kt 172)],kZ 12 [ki,ki,kl],S 12 173 3] (Z (G [kMi 13 0] (K.block 2 (K.loop (Z (G [M 174 13,D 175 11 2,L 176 175 1,kN 177 176,kB 178 174 177 .lss] (Y 178 ks (K.exit 2))) (Z (K.block 3 (K.dops [(0,0,M 181 0),(1,0,D 182 4 13),(2,0,L 183 182 1),(3,0,kXi 184 183 15 2),(4,0,J 185 184 15),(5,0,M 186 2),(6,0,D 187 4 0),(7,0,J 188 187 3),(8,0,D 189 11 2),(9,0,L 190 189 1),(10,0,M 191 13),(11,0,kX 192 190 191 3),(12,0,J 193 192 3),(13,0,kC 194 101 [(kt 186),(kt 188),(kc 0),(kt 193)]),(14,0,D 195 4 0),(15,0,J 196 195 3),(16,0,J 197 12 3),(17,0,kC 198 101 [(kt 194),(kt 196),(kc 1),(kt 197)]),(18,4,kC 199 102 [(kt 181),(kt 185),(kt 198)]),(19,0,S 12 199 3)])) (K.ops [M 179 13,kBi 180 179 1 .add,M 13 180])))))) (G [J 200 12 3,S 6 200 3] kr)))))))
def qNj:Nat→Option (List (Nat×Nat)):=fun r=>match r with | 10=>some [(0,0),(1,0),(2,1),(3,1),(4,1),(5,1),(6,1),(7,0),(8,0),(9,0),(10,0),(11,0),(12,0)] | 15=>some [(0,2),(1,2001),(2,0),(3,0),(4,0),(5,0),(6,1001),(7,0),(8,0)] | 30=>some [(0,0),(1,0),(2,0),(3,0),(4,0),(5,0),(6,0),(7,0),(8,0),(9,0),(10,4),(11,0)] | 34=>some [(0,0),(1,0),(2,0),(3,0),(4,0),(5,0),(6,0),(7,0),(8,0),(9,0),(10,0),(11,0),(12,0),(13,0),(14,0),(15,0),(16,0),(17,0),(18,4),(19,0)] | 39=>some [(0,0),(1,0),(2,0),(3,0),(4,0),(5,0),(6,0),(7,0),(8,0),(9,0),(10,0),(11,0),(12,0),(13,0),(14,0),(15,0),(16,0),(17,0),(18,4),(19,0)] | _=>none
theorem zHz:qJ Tryz.prog Tryz.f138.ntmps qNj (Tryz.f138.body.getD .skip)=some zGs.erase:=by kernel_rfl
@[simp] theorem qO7:zC Tryz.prog 138=true:=by kernel_rfl
abbrev XVa (p:Prg)(e:Exp)(V:List EVar)(s:XS)(r:Val×XS):Prop:=Ret Tryz.prog 138 [.ptr 0 0,.agg (zH e),.sl V.length (jQ V)] (xS p s) (.agg (zI r.1)) (xS p r.2)
theorem zQa (hk:e.k=0):XVa p e V s (.mk 0 e.n [],s):=by have hP:=eP p;refine zJ Tryz.func138 rfl zHz (rs:=[.cell 6 3 true]) (by kernel_rfl) ?_;unfold zGs;simp[xS,hP,zH,hk];exact zF [0] 0 (by decide) (by simp) (by simp) (by simp[zI,zU,zO,zG])
theorem zNL (hk:e.k=1):XVa p e V s (.mk 1 e.n [],s):=by have hP:=eP p;refine zJ Tryz.func138 rfl zHz (rs:=[.cell 6 3 true]) (by kernel_rfl) ?_;unfold zGs;simp[xS,hP,zH,hk];exact zF [0] 0 (by decide) (by simp) (by simp) (by simp[zI,zU,zO,zG])
theorem zPO (hk:e.k=2)(hV:V.length≤1000000):XVa p e V s (zDb V e.ref e.n,s):=by have hP:=eP p;refine zJ Tryz.func138 rfl zHz (rs:=[.cell 6 3 true]) (by kernel_rfl) ?_;unfold zGs;simp[xS,hP,zH,hk];refine zR (zNq V e.ref e.n hV) (by simp[qL]) (by simp[zI]) ?_;simp[zI];exact zF [0] 0 (by decide) (by simp) (by simp) (by simp[zI])
section
variable {A:List Val×XS}(hA:Ret Tryz.prog 160 [.ptr 0 0,.sl e.kids.length (qR e.kids),.sl V.length (jQ V)] (xS p s) (.sl A.1.length (zZ A.1)) (xS p A.2))
include hA
theorem zQb (hk:e.k=7):XVa p e V s (.mk 2 0 A.1,A.2):=by have hP:=eP p;refine zJ Tryz.func138 rfl zHz (rs:=[.cell 6 3 true]) (by kernel_rfl) ?_;unfold zGs;simp[xS,hP,zH,hk];refine zM hA [0] (by decide) (by simp[xS,hP]) (by simp) ?_;simp[xS,hP];exact zF [0] 0 (by decide) (by simp) (by simp) (by simp[zI,zU,zO,zG])
theorem zNI (hk:e.k=11):XVa p e V s (.mk 4 0 A.1,A.2):=by have hP:=eP p;refine zJ Tryz.func138 rfl zHz (rs:=[.cell 6 3 true]) (by kernel_rfl) ?_;unfold zGs;simp[xS,hP,zH,hk];refine zM hA [0] (by decide) (by simp[xS,hP]) (by simp) ?_;simp[xS,hP];exact zF [0] 0 (by decide) (by simp) (by simp) (by simp[zI,zU,zO,zG])
theorem zNh (hk:e.k=9):XVa p e V s (.mk 3 e.n A.1,A.2):=by have hP:=eP p;refine zJ Tryz.func138 rfl zHz (rs:=[.cell 6 3 true]) (by kernel_rfl) ?_;unfold zGs;simp[xS,hP,zH,hk];refine yX hA [0] (by decide) (by simp[xS,hP]) (by simp) (by simp) (by simp) (by simp[xS]) ?_;simp[xS,hP];exact zF [0] 0 (by decide) (by simp) (by simp) (by simp[zI,zU,zO,zG])
theorem zSp {v:Val}(hk:e.k=4)(hv:A.2.fail=0→v=opV e.n A.1∧∃ts t,OpT e.n ts t∧TyL p ts A.1∧∀v∈A.1,qE v≤256)(hz:A.2.fail≠0→v=vz):XVa p e V s (v,A.2):=by
 have hP:=eP p;obtain⟨vs,s1⟩:=A;simp only at hA hv hz ⊢;refine zJ Tryz.func138 rfl zHz (rs:=[.cell 6 3 true]) (by kernel_rfl) ?_;unfold zGs;simp[xS,hP,zH,hk];refine zM hA [0] (by decide) (by simp[xS,hP]) (by simp) ?_;by_cases hf:s1.fail=0
 ·obtain⟨rfl,ts,t,ho,ht,hs⟩:=hv hf;simp[xS,hP,hf];refine zR (zVw ho ht hs) (by simp) (by simp[zI]) ?_;simp[zI];exact zF [0] 0 (by decide) (by simp) (by simp[hf]) (by simp[zI])
 ·obtain rfl:=hz hf;simp[xS,hP,hf];exact zF [0] 0 (by decide) (by simp) (by simp) (by simp[zI,zU,zO,zG])
theorem zOi {d:Dfn}{r:Val×XS}(hL:p.defs.length≤1000000)(hk:e.k=3)(hd:yL p.defs e.ref=some d)
 (hb:Ret Tryz.prog 51 [.ptr 0 0,.agg (zP d),.sl A.1.length (zZ A.1)] (xS p A.2) (.agg (zI r.1)) (xS p r.2)):XVa p e V s r:=by
 have hP:=eP p;refine zJ Tryz.func138 rfl zHz (rs:=[.cell 6 3 true]) (by kernel_rfl) ?_;unfold zGs;simp[xS,hP,zH,hk];refine zM hA [0] (by decide) (by simp[xS,hP]) (by simp) ?_;simp[xS,hP];refine zAn (zB0 p hL e.ref) (by simp[zQ,qL]) (by simp[zAh]) ?_;simp[zAh,hd,zP];refine zM hb [0] (by decide) (by simp[xS,hP]) (by simp[zP]) ?_;simp[xS,hP,zI];exact zF [0] 0 (by decide) (by simp) (by simp) (by simp[zI])
end
abbrev XBr (p:Prg)(ev:Evl)(e:Exp)(V:List EVar)(s:XS):Prop:=XVa p e V s (qG ev e V s)
theorem zFm (h:XIh p c m ev){a:Exp}{ks:List Exp}(hk:e.k=5∨e.k=6∨e.k=8∨e.k=10∨e.k=12)(hks:e.kids=a::ks)(hA:Adm p a V s)(hB:Bn c m s)(hVl:V.length+2*m≤100000)(hf:(ev a V s).2.fail≠0):XBr p ev e V s:=by
 have hr:=h.ok a V s hA hB hVl;have hx:qG ev e V s=(vz,(ev a V s).2):=by unfold qG; rw[hks]; simp[hf]
 unfold XBr;rw[hx];generalize ev a V s=r at hr hf;have n0:¬e.k=0:=by omega
 have n1:¬e.k=1:=by omega
 have n2:¬e.k=2:=by omega
 have n3:¬e.k=3:=by omega
 have n7:¬e.k=7:=by omega
 have n9:¬e.k=9:=by omega
 have n11:¬e.k=11:=by omega
 have n4:¬e.k=4:=by omega
 refine zJ Tryz.func138 rfl zHz (rs:=[.cell 6 3 true]) (by kernel_rfl) ?_;unfold zGs;have hP:=eP p;simp[xS,hP,zH,hks,zL,n0,n1,n2,n3,n7,n9,n11,n4];refine zM hr [0] (by decide) (by simp[xS,hP]) (by simp[zH]) ?_;simp[xS,hP,zI,hf];exact zF [0] 0 (by decide) (by simp) (by simp) (by simp[zI,zU,zO,zG])
set_option maxHeartbeats 1000000 in
theorem zXI (h:XIh p c m ev){B:List Bnd}{a b d:Exp}{t:Typ}(hk:e.k=5)(hks:e.kids=[a,b,d])(ha:WE p B a jP)(hb:WE p B b t)(hd:WE p B d t)(hV:EnvT p B V)(hN:NdV V)(hB:Bn c m s)(hVl:V.length+2*m≤100000):XBr p ev e V s:=by
 by_cases hf:(ev a V s).2.fail=0
 ·have hr:=h.ok a V s (.of ha hV hN) hB hVl;have hB1:=(h.bd a V s hB).bn;have hty:=(h.snd a B V s _ ha hV hf).1.bool_inv;have hx:qG ev e V s=ev (if (ev a V s).1.n=1 then b else d) V (ev a V s).2:=by unfold qG;rw[hks];simp only[List.headD_cons,hf,hk];by_cases hn:(ev a V s).1.n=1<;>simp[hn]
  unfold XBr;rw[hx];clear hx;generalize ev a V s=r at *
  obtain⟨v,s1⟩:=r;simp only at *
  have r1:=h.ok b V s1 (.of hb hV hN) hB1 hVl;have r2:=h.ok d V s1 (.of hd hV hN) hB1 hVl;obtain⟨x,rfl,hxx⟩:=hty;have w2:IntKind.i64.wrap 2=2:=by decide
  have w1:IntKind.i64.wrap 1=1:=by decide
  refine zJ Tryz.func138 rfl zHz (rs:=[.cell 6 3 true]) (by kernel_rfl) ?_;unfold zGs;have hP:=eP p;simp[xS,hP,zH,hks,zL,hk];refine zM hr [0] (by decide) (by simp[xS,hP]) (by simp[zH]) ?_;rcases hxx with rfl | rfl
  ·simp[xS,hP,zI,hf,zU,zO,zG,w2];refine zM r2 [0] (by decide) (by simp[xS,hP,hf]) (by simp[zH]) ?_;simp[xS,hP,zI];exact zF [0] 0 (by decide) (by simp) (by simp) (by simp[zI])
  ·simp[xS,hP,zI,hf,zU,zO,zG,w1];refine zM r1 [0] (by decide) (by simp[xS,hP,hf]) (by simp[zH]) ?_;simp[xS,hP,zI];exact zF [0] 0 (by decide) (by simp) (by simp) (by simp[zI])
 ·exact zFm h (.inl hk) hks (.of ha hV hN) hB hVl hf
set_option maxHeartbeats 1000000 in
theorem zYm (h:XIh p c m ev){B:List Bnd}{a b:Exp}{u t:Typ}(hk:e.k=6)(hks:e.kids=[a,b])(hfr:∀x∈B,x.id≠e.id)(ha:WE p B a u)(hb:WE p (B++[⟨e.id,0,u⟩]) b t)(hV:EnvT p B V)(hN:NdV V)(hB:Bn c m s)(hVl:V.length+2+2*m≤100000)(hm:0≤m):XBr p ev e V s:=by
 by_cases hf:(ev a V s).2.fail=0
 ·have hr:=h.ok a V s (.of ha hV hN) hB (by omega);have hB1:=(h.bd a V s hB).bn;have hty:=h.snd a B V s _ ha hV hf;have hfv:=hV.ids hfr;have hx:qG ev e V s=ev b (V++[⟨e.id,0,(ev a V s).1⟩]) (ev a V s).2:=by unfold qG;rw[hks];simp[hf,hk]
  unfold XBr;rw[hx];clear hx;generalize ev a V s=r at *
  obtain⟨v,s1⟩:=r;simp only at *
  have r1:=h.ok b (V++[⟨e.id,0,v⟩]) s1 (.of hb (hV.push hty) (hN.push (.of hfv 0))) hB1 (by simp; omega);have wi:=zBT V ⟨e.id,0,v⟩ (by omega);generalize ev b (V++[⟨e.id,0,v⟩]) s1=r' at *
  refine zJ Tryz.func138 rfl zHz (rs:=[.cell 6 3 true]) (by kernel_rfl) ?_;unfold zGs;have hP:=eP p;simp[xS,hP,zH,hks,zL,hk];refine zM hr [0] (by decide) (by simp[xS,hP]) (by simp[zH]) ?_;simp[xS,hP,zI,hf];refine qI wi (by simp[qL,zI]) (by simp) ?_;simp;refine yT r1 [0] (by decide) (by simp[xS,hP,hf]) (by simp[zH]) ?_;simp[xS,hP,zI];exact zF [0] 0 (by decide) (by simp) (by simp) (by simp[zI])
 ·exact zFm h (.inr (.inl hk)) hks (.of ha hV hN) hB (by omega) hf
set_option maxHeartbeats 1000000 in
theorem zSe (h:XIh p c m ev){B:List Bnd}{a:Exp}{d:Dfn}{j:Nat}(hk:e.k=8)(hn:e.n=j)(hks:e.kids=[a])(hd:yL p.defs e.ref=some d)(hdk:d.kind=0)(hj:j<d.slots.length)(ha:WE p B a (zA9 e.ref))(hV:EnvT p B V)(hN:NdV V)(hB:Bn c m s)(hVl:V.length+2*m≤100000):XBr p ev e V s:=by
 by_cases hf:(ev a V s).2.fail=0
 ·have hr:=h.ok a V s (.of ha hV hN) hB hVl;have hty:=(h.snd a B V s _ ha hV hf).1.def_inv hd;have hx:qG ev e V s=((ev a V s).1.kids.getD j vz,(ev a V s).2):=by unfold qG;rw[hks];simp[hf,hk,hn]
  unfold XBr;rw[hx];clear hx;generalize ev a V s=r at *
  obtain⟨v,s1⟩:=r;simp only at *
  obtain⟨_,vs,hl,rfl,_⟩:=hty.resolve_right (fun h=>by omega);have hjv:j<vs.length:=by omega
  refine zJ Tryz.func138 rfl zHz (rs:=[.cell 6 3 true]) (by kernel_rfl) ?_;unfold zGs;have hP:=eP p;simp[xS,hP,zH,hks,zL,hk,hn];refine zM hr [0] (by decide) (by simp[xS,hP]) (by simp[zH]) ?_;simp[xS,hP,zI,hf,zU,zO,zG,hjv,qY hjv];exact zF [0] 0 (by decide) (by simp) (by simp) (by simp[zI,zG,hjv])
 ·exact zFm h (.inr (.inr (.inl hk))) hks (.of ha hV hN) hB hVl hf
set_option maxHeartbeats 1000000 in
theorem zSA (h:XIh p c m ev){B:List Bnd}{a:Exp}{ks:List Exp}{d:Dfn}{t:Typ}(hk:e.k=10)(hks:e.kids=a::ks)(hfr:∀x∈B,x.id≠e.id)(hd:yL p.defs e.ref=some d)(hdk:d.kind=1)(hl:ks.length=d.slots.length)(hl6:ks.length≤32768)(ha:WE p B a (zA9 e.ref))
 (hw:∀(j:Nat)(hj:j<ks.length),WE p (B++[⟨e.id,j,(d.slots[j]'(hl▸hj)).typ⟩]) ks[j] t)(hV:EnvT p B V)(hN:NdV V)(hB:Bn c m s)(hVl:V.length+2+2*m≤100000)(hm0:0≤m):XBr p ev e V s:=by
 by_cases hf:(ev a V s).2.fail=0
 ·have hr:=h.ok a V s (.of ha hV hN) hB (by omega);have hB1:=(h.bd a V s hB).bn;obtain⟨hty,hz⟩:=h.snd a B V s _ ha hV hf;have hty:=hty.def_inv hd;have hfv:=hV.ids hfr;have hx:qG ev e V s=ev (e.kids.getD (1+(ev a V s).1.n).toNat .zero) (V++[⟨e.id,(ev a V s).1.n,(ev a V s).1.kids.headD vz⟩]) (ev a V s).2:=by unfold qG;rw[hks];simp[hf,hk]
  unfold XBr;rw[hx];clear hx;generalize ev a V s=r at *
  obtain⟨v,s1⟩:=r;simp only at *
  obtain⟨_,q,x,hq,rfl,hxt⟩:=hty.resolve_left (fun h=>by omega);have hqk:q<ks.length:=by omega
  have e2:(1+(q:Int)).toNat=q+1:=by omega
  have hw1:IntKind.i64.wrap (1+(q:Int))=((q+1:Nat):Int):=by rw[IntWalk.i64_in _ (by omega)]; omega
  simp only[zO,zG,List.headD_cons,e2,hks,List.getD_eq_getElem?_getD,List.getElem?_cons_succ,List.getElem?_eq_getElem hqk,Option.getD_some];have r1:=h.ok ks[q] (V++[⟨e.id,q,x⟩]) s1 (.of (hw q hqk) (hV.push ⟨hxt,zBt hz (by simp[zG])⟩) (hN.push (.of hfv q))) hB1 (by simp; omega);have wi:=zBT V ⟨e.id,q,x⟩ (by omega);generalize ev ks[q] (V++[⟨e.id,q,x⟩]) s1=r' at *
  have hdr:(qR (a::ks)).drop ((q+1)*15)=zH ks[q]++qR (ks.drop (q+1)):=by
   have:=yE (l:=a::ks) (i:=q+1) (by simpa using hqk)
   simpa using this
  have hlt:q+1<(a::ks).length:=by simpa using hqk
  refine zJ Tryz.func138 rfl zHz (rs:=[.cell 6 3 true]) (by kernel_rfl) ?_;unfold zGs;have hP:=eP p;have h0:=zL a ks;generalize hQ:a::ks=Q at *
  obtain⟨M,hM⟩:∃M,M=q+1:=⟨_,rfl⟩;rw[←hM]at hw1 hdr hlt;have hQ0:0<Q.length:=by omega
  have hq0:0<Q.length*15:=by omega
  have hq15:15≤Q.length*15:=by omega
  have ht:(qR Q).take 15=zH a:=by rw[h0]; exact List.take_left' rfl
  have ea:zH a=[int a.id.a,int a.id.b,int a.id.c,int a.k,int a.n,int a.ref.a,int a.ref.b,int a.ref.c,int a.typ.k,int a.typ.id.a,int a.typ.id.b,int a.typ.id.c,.sl a.typ.kids.length (jJ a.typ.kids),.sl a.kids.length (qR a.kids),.sl a.names.length (yY a.names)]:=rfl;rw[ea]at ht;clear h0;simp[xS,hP,zH,hks,hQ0,hq0,hq15,ht,hk];refine zM hr [0] (by decide) (by simp[xS,hP]) (by simp[zH]) ?_;simp[xS,hP,zI,hf,zU,zO,zG,hw1,hlt,hdr,zH];refine qI wi (by simp[qL,zI]) (by simp) ?_;simp;refine yT r1 [0] (by decide) (by simp[xS,hP,hf]) (by simp[zH]) ?_;simp[xS,hP,zI];exact zF [0] 0 (by decide) (by simp) (by simp) (by simp[zI])
 ·exact zFm h (.inr (.inr (.inr (.inl hk)))) hks (.of ha hV hN) hB (by omega) hf
set_option maxHeartbeats 2000000 in
theorem zUa (h:XIh p c m ev){B:List Bnd}{l z b:Exp}{u t:Typ}(hk:e.k=12)(hks:e.kids=[l,z,b])(hfr:∀x∈B,x.id≠e.id)(hl:WE p B l (jM u))(hz:WE p B z t)(hb:WE p (B++[⟨e.id,0,u⟩]++[⟨e.id,1,t⟩]) b t)(hV:EnvT p B V)(hN:NdV V)(hB:Bn c m s)(hVl:V.length+2+2*m≤100000)(hm0:0≤m):XBr p ev e V s:=by
 by_cases hf:(ev l V s).2.fail=0
 ·have hr:=h.ok l V s (.of hl hV hN) hB (by omega);have hB1:=(h.bd l V s hB).bn;obtain⟨hty,hsz⟩:=h.snd l B V s _ hl hV hf;have hfv:=hV.ids hfr;have hx:qG ev e V s=jU ev V e.id b (ev l V s).1.kids (ev z V (ev l V s).2):=by unfold qG;rw[hks];simp[hf,hk]
  unfold XBr;rw[hx];clear hx;generalize ev l V s=r at *
  obtain⟨v,s1⟩:=r;simp only at *
  obtain⟨vs,rfl,hvs⟩:=hty.list_inv;have hvl:=zJT hsz;simp only[zG]at hvl;have hr2:=h.ok z V s1 (.of hz hV hN) hB1 (by omega);have hB2:=h.bd z V s1 hB1;have ht2:=h.snd z B V s1 _ hz hV;generalize ev z V s1=r2 at *
  simp only[zG];have hst:∀i,Bd c m (jU ev V e.id b (vs.take i) r2).2∧((jU ev V e.id b (vs.take i) r2).2.fail=0→TyV p t (jU ev V e.id b (vs.take i) r2).1∧qE (jU ev V e.id b (vs.take i) r2).1≤256):=fun i =>
   ⟨zFf h.bd V e.id b _ _ hB2,zF6 h.stop h.snd hV hb _ _ (fun x hx=>⟨hvs x (List.mem_of_mem_take hx),zBt hsz (List.mem_of_mem_take hx)⟩) ht2⟩
  have hround:∀(i:Nat) (hi:i<vs.length),XOk p (jU ev V e.id b (vs.take (i+1)) r2) b (V++[⟨e.id,0,vs[i]⟩]++[⟨e.id,1,(jU ev V e.id b (vs.take i) r2).1⟩]) (jU ev V e.id b (vs.take i) r2).2:=fun i hi=>by rw[List.take_succ_eq_append_getElem hi,zED];refine h.ok _ _ _ (fun h0=>⟨_,t,hb,(hV.push ⟨hvs _ (List.getElem_mem hi),zBt hsz (List.getElem_mem hi)⟩).push ((hst i).2 h0),(hN.push (.of hfv 0)).push (.push hfv (by decide) _)⟩) (hst i).1.bn (by simp; omega)
  have htk:vs.take vs.length=vs:=List.take_length;have hF0:jU ev V e.id b [] r2=r2:=rfl;refine zJ Tryz.func138 rfl zHz (rs:=[.cell 6 3 true]) (by kernel_rfl) ?_;unfold zGs;have hP:=eP p;simp[xS,hP,zH,hks,zL,hk];refine zM hr [0] (by decide) (by simp[xS,hP]) (by simp[zH]) ?_;simp[xS,hP,zI,hf,zU,zO,zG];refine zM hr2 [0] (by decide) (by simp[xS,hP,hf]) (by simp[zH]) ?_;simp[xS,hP,zI,zG];refine qP (S:=Nat) (fun i=>[(0,.ptr 0 0),(2,.sl V.length (jQ V)),(4,.ptr 1 0),(6,.ptr 2 0),(11,.ptr 3 0),(12,.ptr 4 0),(13,int i)])
   (fun i=>xS p (jU ev V e.id b (vs.take i) r2).2++[.box (zH e),.box [int 0,int 0,.nil],.box [int 4,int 0,.sl vs.length (zZ vs)],.box (zI (jU ev V e.id b (vs.take i) r2).1)]) (fun i=>i≤vs.length) (fun i=>vs.length-i) 0 (by simp)
   (zV [0,1,2,3,4] 0 (by decide) (by simp) (by simp[xS,hP,zH,hks,zL,hk,zI,hF0]) (by simp)) ?_
  intro i hi;have hwi:IntKind.i64.wrap ((i:Int)+1)=(i:Int)+1:=IntWalk.i64_in _ (by omega);by_cases hil:i<vs.length
  ·have hro:=hround i hil;have hdr:=qY hil;generalize hFn:jU ev V e.id b (vs.take (i+1)) r2=Fn at hro;generalize hFi:jU ev V e.id b (vs.take i) r2=Fi at hro;obtain⟨acc,si⟩:=Fi;simp only at hro;generalize vs[i]=x at *
   have w1:=zBT V ⟨e.id,0,x⟩ (by omega);have w2:=zBT (V++[⟨e.id,0,x⟩]) ⟨e.id,1,acc⟩ (by simp; omega);simp[xS,hP,zH,hks,zL,hk,zI,hil,hdr,hFi]
   intros
   refine qI w1 (by simp[qL,zI]) (by simp) ?_;simp;refine qI w2 (by simp[qL,zI]) (by simp) ?_;simp;refine yT hro [0] (by decide) (by simp[xS,hP]) (by simp[zH]) ?_;simp[xS,hP,zI];exact zW (i+1) hil (by omega) (zV [0,1,2,3,4] 0 (by decide) (by simp) (by simp[xS,hP,zH,hks,zL,hk,zI,hFn]) (by simp[hwi]))
  ·have hil:i=vs.length:=by omega
   subst hil;rw[htk];simp[xS,hP,zI]
   intros
   exact zF [0] 0 (by decide) (by simp) (by simp) (by simp[zI])
 ·exact zFm h (.inr (.inr (.inr (.inr hk)))) hks (.of hl hV hN) hB (by omega) hf
end
theorem zYd {p:Prg}{hs:List Hd}(hf:Fit p hs){r:Nat}{t:Typ}(ht:TyOk hs r t){x:Id}:Nam t x→x∈p.defs.map Dfn.id:=by
 induction ht with
 | int r=>intro hx; cases hx with
  | here _ h=>simp at h
  | kid _ k x h=>simp at h
 | bool r=>intro hx; cases hx with
  | here _ h=>simp at h
  | kid _ k x h=>simp at h
 | list r t h ih=>intro hx; cases hx with
  | here _ h=>simp at h
  | kid _ k x h hx' =>
   simp only[Typ.kids_mk,List.mem_singleton]at h;subst h;exact ih hx'
 | dfn r k h h1 h2 h3 h4 ih=>intro hx; cases hx with
  | here _ h' =>
   obtain⟨d,hd,_⟩:=hf.hd k h;obtain⟨a,b⟩:=zAz hd;exact List.mem_map.2 ⟨d,a,b⟩
  | kid _ k x h=>simp at h
structure RS (p:Prg)(L:List Id):Prop where
 ss:SS L
 sub:∀x∈L,x∈p.defs.map Dfn.id
theorem RS.len {p:Prg}{hs:List Hd}(hf:Fit p hs){L:List Id}(h:RS p L):L.length≤8:=by
 have hn:L.Nodup:=by have:=h.ss;unfold SS at this;exact this.imp fun {a b} hab e=>by subst e; simp[zAv]at hab
 have:=hn.length_le_of_subset (l₂:=p.defs.map Dfn.id) h.sub;have:=hf.len8;simp at *
 omega
theorem RS.nam {p:Prg}{hs:List Hd}(hf:Fit p hs){L:List Id}(h:RS p L){r:Nat}{t:Typ}(ht:TyOk hs r t):RS p (zB5 t L) :=
 ⟨zMH t L h.ss,fun x hx=>by
  rcases (zJ3 t L x).1 hx with hx | hx
  ·exact h.sub x hx
  ·exact zYd hf ht hx⟩
theorem RS.fold {p:Prg} {α : Type}(g : α→List Id→List Id):∀(l:List α) (L:List Id),(∀a∈l,∀L,RS p L→RS p (g a L))→RS p L→RS p (l.foldl (fun L a=>g a L) L)
 | [],L,_,h=>h
 | a::l,L,hg,h=>by rw[List.foldl_cons];exact RS.fold g l _ (fun b hb=>hg b (by simp[hb])) (hg a (by simp) L h)
def qHc:K:=G [kO 2 0,kMn 4] (Z (G [D 6 2 0,L 7 6 1,kQi 8 7 3 false] (Y 8 (K.ops [M 9 1,D 10 2 1,J 11 10 3,kC 12 61 [(kt 9),(kt 11)],M 1 12]) ks)) (Z (G [kMi 5 0] (K.block 0 (K.loop (Z (G [M 13 5,D 14 2 4,L 15 14 1,kN 16 15,kB 17 13 16 .lss] (Y 17 ks (K.exit 0))) (Z (K.block 1 (K.ops [D 20 2 4,L 21 20 1,M 22 5,kX 23 21 22 5,J 24 23 5,M 25 1,kC 26 100 [(kt 24),(kt 25)],M 1 26])) (K.ops [M 18 5,kBi 19 18 1 .add,M 5 19])))))) (G [M 27 1,M 4 27] kr)))
theorem qNG:zN Tryz.prog Tryz.f100.ntmps (Tryz.f100.body.getD .skip)=some qHc.erase:=by kernel_rfl
@[simp] theorem qMR:zC Tryz.prog 100=true:=by kernel_rfl
theorem zEu {p:Prg}{hs:List Hd}(hf:Fit p hs)(t:Typ)(hkl:t.kids.length≤1000)(hk:∀k∈t.kids,∀L,RS p L→RS p (zB5 k L)∧Ret Tryz.prog 100 [.agg (zB k),.sl L.length (zX L)] [] (.sl (zB5 k L).length (zX (zB5 k L))) [])
 (h3:t.k=3→∀L,RS p L→RS p (zBR L t.id))(L:List Id)(hL:RS p L):Ret Tryz.prog 100 [.agg (zB t),.sl L.length (zX L)] [] (.sl (zB5 t L).length (zX (zB5 t L))) []:=by
 rw[zR5];obtain⟨L0,hL0⟩:∃L0,L0=if t.k=3 then zBR L t.id else L:=⟨_,rfl⟩
 have hR0:RS p L0:=by
  rw[hL0];split
  ·rename_i h; exact h3 h L hL
  ·exact hL
 have hR:∀i,RS p ((t.kids.take i).foldl (fun L t=>zB5 t L) L0):=fun i=>RS.fold zB5 _ _ (fun k hk' L hL=>(hk k (List.mem_of_mem_take hk') L hL).1) hR0
 rw[←hL0];have hall:t.kids.take t.kids.length=t.kids:=List.take_length;have h00:(t.kids.take 0).foldl (fun L t=>zB5 t L) L0=L0:=rfl;have loop:∀(P':Prop),P'→P':=fun _ h=>h
 refine zK Tryz.func100 rfl qNG (rs:=[.slot 4]) (by kernel_rfl) ?_;unfold qHc;have hround:∀(i:Nat) (hi:i<t.kids.length),Ret Tryz.prog 100 [.agg (zB t.kids[i]),.sl ((t.kids.take i).foldl (fun L t=>zB5 t L) L0).length (zX ((t.kids.take i).foldl (fun L t=>zB5 t L) L0))] []
  (.sl ((t.kids.take (i+1)).foldl (fun L t=>zB5 t L) L0).length (zX ((t.kids.take (i+1)).foldl (fun L t=>zB5 t L) L0))) []:=fun i hi=>by
  rw[zCg (fun L t=>zB5 t L) L0 hi];exact(hk _ (List.getElem_mem hi) _ (hR i)).2
 by_cases h3':t.k=3
 ·rw[if_pos h3']at hL0;have hins:=zIo L t.id (by have:=hL.len hf; omega);rw[←hL0]at hins;simp[zB,h3'];refine zR hins (by simp[qL]) (by simp) ?_;simp;refine qP (S:=Nat) (fun i=>[(1,.sl ((t.kids.take i).foldl (fun L t=>zB5 t L) L0).length (zX ((t.kids.take i).foldl (fun L t=>zB5 t L) L0))),(2,.ptr 0 0),(5,int i)]) (fun i=>[.box (zB t)]) (fun i=>i≤t.kids.length) (fun i=>t.kids.length-i) 0 (by simp)
   (zV [0] 0 (by decide) (by simp) (by simp[zB,h3']) (by simp)) ?_
  intro i hi;have hw:IntKind.i64.wrap ((i:Int)+1)=(i:Int)+1:=IntWalk.i64_in _ (by omega);by_cases h:i<t.kids.length
  ·have hro:=hround i h;simp[zB,h,zBh h]
   intros
   refine zR hro (by simp[zB]) (by simp) ?_;simp;exact zW (i+1) h (by omega) (zV [0] 0 (by decide) (by simp) (by simp[zB]) (by simp[hw]))
  ·have hil:i=t.kids.length:=by omega
   subst hil;rw[hall];simp[zB]
   intros
   exact zA 0 (by simp)
 ·rw[if_neg h3']at hL0;subst hL0;simp[zB,h3'];refine qP (S:=Nat) (fun i=>[(1,.sl ((t.kids.take i).foldl (fun L t=>zB5 t L) L0).length (zX ((t.kids.take i).foldl (fun L t=>zB5 t L) L0))),(2,.ptr 0 0),(5,int i)]) (fun i=>[.box (zB t)]) (fun i=>i≤t.kids.length) (fun i=>t.kids.length-i) 0 (by simp)
   (zV [0] 0 (by decide) (by simp) (by simp[zB]) (by simp)) ?_
  intro i hi;have hw:IntKind.i64.wrap ((i:Int)+1)=(i:Int)+1:=IntWalk.i64_in _ (by omega);by_cases h:i<t.kids.length
  ·have hro:=hround i h;simp[zB,h,zBh h]
   intros
   refine zR hro (by simp[zB]) (by simp) ?_;simp;exact zW (i+1) h (by omega) (zV [0] 0 (by decide) (by simp) (by simp[zB]) (by simp[hw]))
  ·have hil:i=t.kids.length:=by omega
   subst hil;rw[hall];simp[zB]
   intros
   exact zA 0 (by simp)
theorem zNE {p:Prg}{hs:List Hd}(hf:Fit p hs){r:Nat}{t:Typ}(h:TyOk hs r t):∀L,RS p L→Ret Tryz.prog 100 [.agg (zB t),.sl L.length (zX L)] [] (.sl (zB5 t L).length (zX (zB5 t L))) []:=by
 induction h with
 | int r=>exact zEu hf _ (by simp) (by simp) (by simp)
 | bool r=>exact zEu hf _ (by simp) (by simp) (by simp)
 | list r t h ih =>
  refine zEu hf _ (by simp) (fun k hk L hL=>?_) (by simp);simp only[Typ.kids_mk,List.mem_singleton]at hk;subst hk;exact⟨hL.nam hf h,ih L hL⟩
 | dfn r k h h1 h2 h3 h4 ih =>
  refine zEu hf _ (by simp) (by simp) fun _ L hL=>?_
  have:=hL.nam hf (TyOk.dfn r k h h1 h2 h3 h4);rw[zR5]at this
  simpa using this
end Go.Proofs.YthglhccibdlccaaGreatDoor
