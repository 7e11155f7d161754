/-
  The reference's environments: With, Find.
  value.Size and trace.deep.
  value.small: true at small values.
  trace.set, Join and Asks; the law's lists of IDs.
-/
import Derived.Test.YthglhccibdlccaaGreatDoorX22
set_option linter.unusedVariables false
set_option linter.unusedSimpArgs false
namespace Go.Proofs.YthglhccibdlccaaGreatDoor
open Go.Abs
structure EVar where
 id:Id
 n:Int
 v:Val
def zDJ (b:EVar):List A:=[.lit (.int .i64 b.id.a),.lit (.int .i64 b.id.b),.lit (.int .i64 b.id.c),.lit (.int .i64 b.n),.lit (.int .i64 b.v.k),.lit (.int .i64 b.v.n),.sl b.v.kids.length (zV b.v.kids)]
theorem zFx (b:EVar):jE (zDJ b):=by have h:=zBE b.v.kids;exact⟨by simp[zDJ,h.1],fun rf g=>by simp[zDJ,h.2]⟩
def zCF (l:List EVar):List A:=l.flatMap zDJ
theorem zG1 (l:List EVar):jE (zCF l):=zBi zFx l
@[simp] theorem zXU (l:List EVar):jG (zCF l)=zCF l:=(zG1 l).1
@[simp] theorem qCI {rf g}(l:List EVar):vwL rf g (zCF l)=zCF l:=(zG1 l).2 _ _
@[simp] theorem zZ8:zCF []=[]:=rfl
@[simp] theorem zZ7 (l:List EVar):(zCF l).length=l.length*7:=by rw[zCF,zBQ (k:=7) (fun _=>rfl)]
@[simp] theorem qDu (d:EVar):(zDJ d).length=7:=rfl
@[simp] theorem qDt (d:EVar):(zDJ d).take 7=zDJ d:=List.take_of_length_le (Nat.le_refl _)
@[simp] theorem qB0 (d:EVar)(l:List A):(zDJ d++l).take 7=zDJ d:=by rw[List.take_append_of_le_length (by simp)]; exact List.take_of_length_le (by simp)
@[simp] theorem qCd (d:EVar):jG (zDJ d)=zDJ d:=(zFx d).1
@[simp] theorem qJp (d:EVar) {rf g}:vwL rf g (zDJ d)=zDJ d:=(zFx d).2 _ _
@[simp] theorem qNA:zA Tryz.prog 101=true:=by kernel_rfl
def zEf (env:List EVar)(id:Id)(n:Int):Val:=((env.reverse.find? fun b=>decide (b.id=id∧b.n=n)).map EVar.v).getD (.mk 0 0 [])
theorem zKf (env:List EVar)(b:EVar)(id:Id)(n:Int):zEf (env++[b]) id n=if b.id=id∧b.n=n then b.v else zEf env id n:=by unfold zEf;rw[List.reverse_append,List.reverse_singleton,List.singleton_append,List.find?_cons];by_cases h:b.id=id∧b.n=n<;>simp[h]
@[simp] theorem qNx:zA Tryz.prog 159=true:=by kernel_rfl
def qFR:K:=G [kO 1 0,kMi 2 0] (G [kMi 3 1] (Z (G [D 6 1 2,L 7 6 1,kN 8 7,kMi 9 0] (K.block 0 (K.loop (G [kB 10 9 8 .lss] (Z (Y 10 ks (K.exit 0)) (Z (K.block 1 (G [kX 11 7 9 3,J 12 11 3,kZ 5 [ki,ki,kl],S 5 12 3] (K.ops [M 13 3,J 14 5 3,kC 15 130 [(kt 14)],kB 16 13 15 .add,M 3 16]))) (K.ops [kBi 17 9 1 .add,M 9 17]))))))) (G [M 18 3,M 2 18] kr)))
theorem qMB:zL Tryz.prog Tryz.f130.ntmps (Tryz.f130.body.getD .skip)=some qFR.erase:=by kernel_rfl
@[simp] theorem qOc:zA Tryz.prog 130=true:=by kernel_rfl
theorem zJA (v:Val):Ret Tryz.prog 130 [.agg (zI v)] [] (int (zDc v)) []:=by
 refine zK Tryz.func130 rfl qMB (rs:=[.slot 2]) (by kernel_rfl) ?_;unfold qFR;simp[zI];intro hl;refine qZ (S:=Nat) (fun i=>[(3,int (zKV (v.kids.take i))),(7,.sl v.kids.length (zV v.kids)),(8,int v.kids.length),(9,int i)]) (fun s=>[]) (fun i=>i≤v.kids.length) (fun i=>v.kids.length-i) 0 (by simp)
  (zS [] 0 (by simp) (by simp) (by simp) (by simp[zKV])) ?_
 intro i hi;simp;by_cases h:i<v.kids.length
 ·simp[h,jD h];refine zR (zJA v.kids[i]) (by simp[zI]) (by simp) ?_;simp;exact zT (i+1) h (by omega) (zS [] 0 (by simp) (by simp) (by simp) (by simp[qB h hl,zIG h]))
 ·have:i=v.kids.length:=by omega
  subst this;simp;exact zC 0 (by simp[zKR v])
termination_by qH v
decreasing_by exact zAu (List.getElem_mem _)
def qFO:K:=G [kO 1 0,kMi 2 0] (G [kMi 3 0] (Z (G [D 6 1 2,L 7 6 1,kN 8 7,kMi 9 0] (K.block 0 (K.loop (G [kB 10 9 8 .lss] (Z (Y 10 ks (K.exit 0)) (Z (K.block 1 (G [kX 11 7 9 3,J 12 11 3,kZ 5 [ki,ki,kl],S 5 12 3] (K.ops [M 13 3,J 14 5 3,kC 15 131 [(kt 14)],⟨none,.mm (some 16) true [(kt 13),(kt 15)]⟩,M 3 16]))) (K.ops [kBi 17 9 1 .add,M 9 17]))))))) (G [M 18 3,kBi 19 18 1 .add,M 2 19] kr)))
theorem qM8:zL Tryz.prog Tryz.f131.ntmps (Tryz.f131.body.getD .skip)=some qFO.erase:=by kernel_rfl
@[simp] theorem qNY:zA Tryz.prog 131=true:=by kernel_rfl
theorem zQV (v:Val):Ret Tryz.prog 131 [.agg (zI v)] [] (int (zB5 v)) []:=by
 refine zK Tryz.func131 rfl qM8 (rs:=[.slot 2]) (by kernel_rfl) ?_;unfold qFO;simp[zI];intro hl;refine qZ (S:=Nat) (fun i=>[(3,int (zIv (v.kids.take i))),(7,.sl v.kids.length (zV v.kids)),(8,int v.kids.length),(9,int i)]) (fun s=>[]) (fun i=>i≤v.kids.length) (fun i=>v.kids.length-i) 0 (by simp)
  (zS [] 0 (by simp) (by simp) (by simp) (by simp[zIv])) ?_
 intro i hi;simp;by_cases h:i<v.kids.length
 ·simp[h,jD h];refine zR (zQV v.kids[i]) (by simp[zI]) (by simp) ?_;simp;exact zT (i+1) h (by omega) (zS [] 0 (by simp) (by simp) (by simp) (by simp[qB h hl,zGi h,zOp]))
 ·have:i=v.kids.length:=by omega
  subst this;simp;exact zC 0 (by simp[zFV v,w64])
termination_by qH v
decreasing_by exact zAu (List.getElem_mem _)
def qFQ:K:=G [kO 1 0,kMb 2 false] (G [kZ 3 [ki],⟨none,.st none (kt 3) (kc 256) 1⟩] (G [kZ 4 [.nilFunc]] (G [⟨none,.clo (some 5) 124 [] [(kt 3),(kt 4)]⟩,S 4 5 1] (G [L 6 4 1,J 7 1 3,⟨none,.call (some 8) (kt 6) [(kt 7),(kc 1)]⟩,M 2 8] kr))))
theorem qMA:zL Tryz.prog Tryz.f91.ntmps (Tryz.f91.body.getD .skip)=some qFQ.erase:=by kernel_rfl
@[simp] theorem qOb:zA Tryz.prog 91=true:=by kernel_rfl
def zZj:K:=G [kO 4 0,kO 5 1,kMb 6 false] (G [L 7 2 1,kBi 8 7 1 .sub,S 2 8 1] (G [L 9 2 1,kBi 10 9 0 .geq,M 11 10,T 11 true (L 12 5 1),T 11 true (kBi 13 12 24 .leq),kPf 14 11 13,M 15 14,T 15 true (D 16 4 2),T 15 true (L 17 16 1),⟨some (15,true),.clo (some 18) 126 [] [(kt 3),(kt 5)]⟩,T 15 true (kC 19 125 [(kt 17),(kt 18)]),T 15 true (kR 20 19),kPf 21 15 20,M 6 21] kr))
theorem qGO:zL Tryz.prog Tryz.f124.ntmps (Tryz.f124.body.getD .skip)=some zZj.erase:=by kernel_rfl
@[simp] theorem qKd:zA Tryz.prog 124=true:=by kernel_rfl
def qA4:K:=G [kMb 4 false] (G [M 5 0,M 6 1,kC 7 143 [(kt 5),(kt 6)],kBi 8 7 0 .geq,M 4 8] kr)
theorem qGI:zL Tryz.prog Tryz.f125.ntmps (Tryz.f125.body.getD .skip)=some qA4.erase:=by kernel_rfl
@[simp] theorem qNX:zA Tryz.prog 125=true:=by kernel_rfl
def zZk:K:=G [kO 3 0,kMb 4 false] (G [L 5 1 1,J 6 3 3,L 7 2 1,kBi 8 7 1 .add,⟨none,.call (some 9) (kt 5) [(kt 6),(kt 8)]⟩,kR 10 9,M 4 10] kr)
theorem qGP:zL Tryz.prog Tryz.f126.ntmps (Tryz.f126.body.getD .skip)=some zZk.erase:=by kernel_rfl
@[simp] theorem qKe:zA Tryz.prog 126=true:=by kernel_rfl
def qA5:K:=G [kMi 4 0] (Z (G [M 6 0,kN 7 6,kMi 8 0] (K.block 0 (K.loop (G [kB 9 8 7 .lss] (Z (Y 9 ks (K.exit 0)) (Z (K.block 1 (G [M 10 8,M 5 10] (G [M 11 1,M 12 0,M 13 5,kX 14 12 13 3,J 15 14 3,⟨none,.call (some 16) (kt 11) [(kt 15)]⟩] (Y 16 (G [M 17 5,M 4 17] kr) ks)))) (K.ops [kBi 18 8 1 .add,M 8 18]))))))) (G [⟨none,.mov (some 4) (kc (-1))⟩] kr))
theorem qGN:zL Tryz.prog Tryz.f143.ntmps (Tryz.f143.body.getD .skip)=some qA5.erase:=by kernel_rfl
@[simp] theorem qOa:zA Tryz.prog 143=true:=by kernel_rfl
mutual
def zA0:Val→Nat
 | .mk _ _ l=>yV l+1
def yV:List Val→Nat
 | []=>0
 | v::l=>max (zA0 v) (yV l)
end
theorem zIf (v:Val):zA0 v=yV v.kids+1:=by cases v; simp only[zA0,Val.kids]
theorem zHJ (v:Val):qH v=1+qV v.kids:=by cases v; simp only[qH,Val.kids]
theorem zIV:∀{l:List Val} {v:Val},v∈l→zA0 v≤yV l
 | x::l,v,h=>by
  simp only[yV];rcases List.mem_cons.1 h with rfl | h
  ·omega
  ·have:=zIV h; omega
theorem zBS:∀(a b:List Val),qV (a++b)=qV a+qV b
 | [],b=>by simp[qV]
 | x::a,b=>by simp[qV,zBS a b]; omega
theorem zFJ {l:List Val}{i:Nat}(h:i<l.length):qV (l.take (i+1))=qV (l.take i)+qH l[i]:=by rw[List.take_succ_eq_append_getElem h,zBS]; simp[qV]
theorem zHK (l:List Val)(i:Nat):qV l=qV (l.take i)+qV (l.drop i):=by
 conv=>lhs; rw[←List.take_append_drop i l]
 exact zBS _ _
def zBx:A:=.clo 124 [] [.ptr 0 0,.ptr 1 0]
def sSt (L:Nat):St:=[.box [int L],.box [zBx]]
def zEp (L:Nat)(d:Int):St:=[.box [int L],.box [zBx],.box [int d]]
def zJz (v:Val)(d:Int):Prop:=∀L:Nat,qH v≤L→L≤256→Ret Tryz.prog 124 [.agg (zI v),int d,.ptr 0 0,.ptr 1 0] (sSt L) (bl true) (sSt (L-qH v))
theorem zSS (v:Val)(d:Int)(hd:0≤d∧d≤100)(h:zJz v (d+1))(L:Nat)(hL:qH v≤L)(hL2:L≤256) :
 Ret Tryz.prog 126 [.agg (zI v),.ptr 1 0,.ptr 2 0] (zEp L d) (bl false) (zEp (L-qH v) d):=by
 refine zK Tryz.func126 rfl qGP (rs:=[.slot 4]) (by kernel_rfl) ?_;unfold zZk;have hw:IntKind.i64.wrap (d+1)=d+1:=IntWalk.i64_in _ (by omega);simp[zEp,zBx,hw,zI];refine zN (h L hL hL2) [0,1] (by simp) (by simp[sSt,zBx]) (by simp[zI]) ?_;simp[sSt,zBx];exact zG [0,1,2] 0 (by decide) (by simp) (by simp[zBx]) (by simp)
theorem zX9 (l:List Val)(d:Int)(hd:0≤d∧d≤100)(h:∀x∈l,zJz x (d+1))(L:Nat)(hL:qV l≤L)(hL2:L≤256) :
 Ret Tryz.prog 143 [.sl l.length (zV l),.clo 126 [] [.ptr 1 0,.ptr 2 0]] (zEp L d) (int (-1)) (zEp (L-qV l) d):=by
 refine zK Tryz.func143 rfl qGN (rs:=[.slot 4]) (by kernel_rfl) ?_;unfold qA5;simp[zEp,zBx];intro hl;refine qZ (S:=Nat) (fun i=>[(0,.sl l.length (zV l)),(1,.clo 126 [] [.ptr 1 0,.ptr 2 0]),(6,.sl l.length (zV l)),(7,int l.length),(8,int i)]) (fun i=>zEp (L-qV (l.take i)) d) (fun i=>i≤l.length) (fun i=>l.length-i) 0 (by simp)
  (zS [0,1,2] 0 (by decide) (by simp) (by simp[zEp,zBx,qV]) (by simp)) ?_
 intro i hi;by_cases hil:i<l.length
 ·have e1:=zFJ hil;have e2:=zHK l (i+1);simp[hil,jD hil,zEp,zBx];refine zN (zSS l[i] d hd (h _ (List.getElem_mem hil)) (L-qV (l.take i)) (by omega) (by omega)) [0,1,2] (by simp) (by simp[zEp,zBx]) (by simp[zI]) ?_;simp[zEp,zBx];exact zT (i+1) hil (by omega) (zS [0,1,2] 0 (by decide) (by simp) (by simp[zEp,zBx,e1,Nat.sub_sub]) (by simp[qB hil hl]))
 ·have:i=l.length:=by omega
  subst this;simp[zEp,zBx];exact zG [0,1,2] 0 (by decide) (by simp) (by simp[zBx]) (by simp)
theorem zWW (l:List Val)(d:Int)(hd:0≤d∧d≤100)(h:∀x∈l,zJz x (d+1))(L:Nat)(hL:qV l≤L)(hL2:L≤256) :
 Ret Tryz.prog 125 [.sl l.length (zV l),.clo 126 [] [.ptr 1 0,.ptr 2 0]] (zEp L d) (bl false) (zEp (L-qV l) d):=by
 refine zK Tryz.func125 rfl qGI (rs:=[.slot 4]) (by kernel_rfl) ?_;unfold qA4;simp[zEp,zBx];refine zN (zX9 l d hd h L hL hL2) [0,1,2] (by simp) (by simp[zEp,zBx]) (by simp) ?_;simp[zEp,zBx];exact zG [0,1,2] 0 (by decide) (by simp) (by simp[zBx]) (by simp)
theorem zKT (v:Val)(d:Int)(hd:1≤d∧d+zA0 v≤25):zJz v d:=by
 intro L hL hL2;refine zK Tryz.func124 rfl qGO (rs:=[.slot 6]) (by kernel_rfl) ?_;unfold zZj;have e1:=zHJ v;have e2:=zIf v;have hw:IntKind.i64.wrap ((L:Int)-1)=((L-1:Nat):Int):=by rw[IntWalk.i64_in _ (by omega)]; omega
 have hd24:d≤24:=by omega
 simp[sSt,zBx,hw,hd24,zI];refine zN (zWW v.kids d (by omega) (fun x hx=>zKT x (d+1) (by have:=zIV hx; omega)) (L-1) (by omega) (by omega)) [0,1,3] (by simp) (by simp[zEp,zBx]) (by simp) ?_;simp[zEp,zBx];exact zG [0,1] 0 (by decide) (by simp) (by simp[zBx,e1,Nat.sub_sub]) (by simp)
termination_by qH v
decreasing_by exact zAu hx
theorem zWa (v:Val)(h1:qH v≤256)(h2:zA0 v≤24):Ret Tryz.prog 91 [.agg (zI v)] [] (bl true) []:=by refine zK Tryz.func91 rfl qMA (rs:=[.slot 2]) (by kernel_rfl) ?_;unfold qFQ;simp[zI];refine zN (zKT v 1 (by omega) 256 h1 (by omega)) [1,2] (by simp) (by simp[sSt,zBx]) (by simp[zI]) ?_;simp[sSt,zBx];exact zC 0 (by simp)
theorem zLn:Ret Tryz.prog 97 [.sl 0 []] [] (.sl 0 []) []:=by refine zK Tryz.func97 rfl zN2 (rs:=[.slot 2]) (by kernel_rfl) ?_;unfold zJD;simp;exact zC 0 (by simp)
def qFF:K:=G [kMn 2] (G [M 4 0,kC 5 94 [(kt 4)],M 3 5] (G [M 6 3,kC 7 95 [(kt 6),(.func 96)]] (G [M 8 3,kC 9 97 [(kt 8)],M 2 9] kr)))
theorem qMz:zL Tryz.prog Tryz.f48.ntmps (Tryz.f48.body.getD .skip)=some qFF.erase:=by kernel_rfl
@[simp] theorem qND:zA Tryz.prog 48=true:=by kernel_rfl
theorem zFI (l:List Id)(hb:l.length≤1000000):Ret Tryz.prog 48 [.sl l.length (qF l)] [] (.sl (zBJ l).length (qF (zBJ l))) []:=by
 refine zK Tryz.func48 rfl qMz (rs:=[.slot 2]) (by kernel_rfl) ?_;unfold qFF;simp;by_cases h:l=[]
 ·subst h;refine zN zNC [] (by simp) (by simp) (by simp) ?_;simp;refine zN (zQr (.clo 96 [] [])) [] (by simp) (by simp) (by simp) ?_;simp;refine zN zLn [] (by simp) (by simp) (by simp) ?_;simp;exact zC 0 (by simp[zBJ,zDd,zAh])
 ·refine zN (zNB l h hb) [] (by simp) (by simp) (by simp) ?_;simp;refine zN (zQq l (by omega)) [0] (by simp) (by simp) (by simp) ?_;have hp:=(zGR l).length_eq;simp;have hc:=zPz (zDd zFg l) (by omega);rw[hp]at hc;refine zN hc [0] (by simp) (by simp) (by simp) ?_;have hle:=zLC (zDd zFg l);simp[zND];by_cases hcc:zAh (zDd zFg l)=zDd zFg l
  ·simp[hcc,hp];exact zC 1 (by simp[zBJ,hcc,hp,zCD])
  ·simp[hcc,hp];have h0:(zAh (zDd zFg l)).length≠0:=fun e=>by have h1:=List.eq_nil_of_length_eq_zero e;obtain⟨x,hx⟩:=List.exists_mem_of_ne_nil l h;have:=(zIc (x:=x) (zDd zFg l)).2 ((zGR l).mem_iff.2 hx);rw[h1]at this;simp at this
   exact zC 1 (by simp[zBJ,h0,jJ])
def zT7:K:=G [kO 2 0,kO 3 1,kZ 4 [kl,kl]] (Z (K.dops [(0,0,D 5 2 0),(1,0,L 6 5 1),(2,0,D 7 3 0),(3,0,L 8 7 1),(4,0,kd 9 45 1 2 [kl,kl] [(0,1,(kt 6)),(1,1,(kt 8))]),(5,0,kC 10 69 [(kt 9)]),(6,0,kC 11 48 [(kt 10)]),(7,0,D 12 2 1),(8,0,L 13 12 1),(9,0,D 14 3 1),(10,0,L 15 14 1),(11,0,kd 16 45 1 2 [kl,kl] [(0,1,(kt 13)),(1,1,(kt 15))]),(12,0,kC 17 69 [(kt 16)]),(13,0,kC 18 48 [(kt 17)]),(14,0,kb 19 [kl,kl] [(0,1,(kt 11)),(1,1,(kt 18))]),(15,0,S 4 19 2)]) kr)
theorem qAL:zL Tryz.prog Tryz.f30.ntmps (Tryz.f30.body.getD .skip)=some zT7.erase:=by kernel_rfl
@[simp] theorem qHd:zA Tryz.prog 30=true:=by kernel_rfl
def zYH:K:=G [kO 2 0,kMb 4 false] (G [⟨none,.mop (some 8) (.mk 3) []⟩,kZ 5 [(.map none)],S 5 8 1] (Z (G [D 9 2 0,L 10 9 1,D 11 2 1,L 12 11 1,kd 13 45 1 2 [kl,kl] [(0,1,(kt 10)),(1,1,(kt 12))],kC 14 69 [(kt 13)],kN 15 14,kMi 16 0] (K.block 0 (K.loop (G [kB 17 16 15 .lss] (Z (Y 17 ks (K.exit 0)) (Z (K.block 1 (G [kX 18 14 16 3,J 19 18 3,kZ 7 [ki,ki,ki],S 7 19 3] (K.ops [L 20 5 1,J 21 7 3,⟨none,.mop none (.set 3) [(kt 20),(kt 21),(.const (.bool true))]⟩]))) (K.ops [kBi 22 16 1 .add,M 16 22]))))))) (G [M 23 1,⟨none,.clo (some 24) 71 [] [(kt 5)]⟩,kC 25 70 [(kt 23),(kt 24)],M 4 25] kr)))
theorem qGq:zL Tryz.prog Tryz.f29.ntmps (Tryz.f29.body.getD .skip)=some zYH.erase:=by kernel_rfl
@[simp] theorem qJC:zA Tryz.prog 29=true:=by kernel_rfl
def zTk:K:=G [kO 2 0,kMb 3 false] (G [L 4 1 1,J 5 2 3,⟨none,.mop (some 6) (.get 3 (.bool false) false) [(kt 4),(kt 5)]⟩,M 3 6] kr)
theorem qAC:zL Tryz.prog Tryz.f71.ntmps (Tryz.f71.body.getD .skip)=some zTk.erase:=by kernel_rfl
@[simp] theorem qGT:zA Tryz.prog 71=true:=by kernel_rfl
def zQE:K:=G [kMi 4 0] (Z (G [M 6 0,kN 7 6,kMi 8 0] (K.block 0 (K.loop (G [kB 9 8 7 .lss] (Z (Y 9 ks (K.exit 0)) (Z (K.block 1 (G [M 10 8,M 5 10] (G [M 11 1,M 12 0,M 13 5,kX 14 12 13 3,J 15 14 3,⟨none,.call (some 16) (kt 11) [(kt 15)]⟩] (Y 16 (G [M 17 5,M 4 17] kr) ks)))) (K.ops [kBi 18 8 1 .add,M 8 18]))))))) (G [⟨none,.mov (some 4) (kc (-1))⟩] kr))
theorem zWC:zL Tryz.prog Tryz.f117.ntmps (Tryz.f117.body.getD .skip)=some zQE.erase:=by kernel_rfl
@[simp] theorem qDi:zA Tryz.prog 117=true:=by kernel_rfl
def zTl:K:=G [kMb 4 false] (G [M 5 0,M 6 1,kC 7 117 [(kt 5),(kt 6)],kBi 8 7 0 .geq,M 4 8] kr)
theorem qAD:zL Tryz.prog Tryz.f70.ntmps (Tryz.f70.body.getD .skip)=some zTl.erase:=by kernel_rfl
@[simp] theorem qGW:zA Tryz.prog 70=true:=by kernel_rfl
theorem zXF (a b:Trc)(h1:a.defs.length+b.defs.length≤1000000)(h2:a.nodes.length+b.nodes.length≤1000000) :
 Ret Tryz.prog 30 [.agg (zAy a),.agg (zAy b)] [] (.agg (zAy ⟨zBJ (a.defs++b.defs),zBJ (a.nodes++b.nodes)⟩)) []:=by
 refine zK Tryz.func30 rfl qAL (rs:=[.cell 4 2 true]) (by kernel_rfl) ?_;unfold zT7;have e1:[a.defs,b.defs].flatten=a.defs++b.defs:=by simp
 have e2:[a.nodes,b.nodes].flatten=a.nodes++b.nodes:=by simp
 simp[zAy];refine qE (zE1 [a.defs,b.defs] (by rw[zCT,e1,List.length_append]; exact h1)) (by simp[zBe]) (by simp) ?_;rw[zCT,e1];simp;refine qE (zFI (a.defs++b.defs) (by rw[List.length_append]; exact h1)) (by simp) (by simp) ?_;simp;refine qE (zE1 [a.nodes,b.nodes] (by rw[zCT,e2,List.length_append]; exact h2)) (by simp[zBe]) (by simp) ?_;rw[zCT,e2];simp;refine qE (zFI (a.nodes++b.nodes) (by rw[List.length_append]; exact h2)) (by simp) (by simp) ?_;simp;exact zC 0 (by simp)
def zEj (l:List Id):List (List Int×A):=l.foldl (fun es d=>zDm (zBb d) (.lit (.bool true)) es) []
theorem zIu (l:List Id)(x:Id):zEj (l++[x])=zDm (zBb x) (.lit (.bool true)) (zEj l):=by simp[zEj,List.foldl_append]
theorem zF2 {x y:Id}:zBb x=zBb y↔x=y:=by simp[zBb,Id.eq_iff]
theorem zLJ {ks ks':List Int}{v:A}:∀(es:List (List Int×A)),zA1 ks (zDm ks' v es)=if ks'=ks then some v else zA1 ks es
 | []=>by simp[zDm,zA1]
 | p::es=>by
  simp only[zDm];by_cases h:p.1=ks'
  ·simp only[h,if_true,zA1];by_cases h':ks'=ks<;>simp[h']
  ·simp only[h,if_false,zA1];by_cases h':p.1=ks
   ·simp only[h',if_true];have:¬ks'=ks:=fun e=>h (h'.trans e.symm)
    simp[this]
   ·simp only[h',if_false,zLJ es]
theorem zPA (x:Id)(l:List Id):zA1 (zBb x) (zEj l)=if x∈l then some (.lit (.bool true)) else none:=by
 induction l using zBy with
 | nil=>simp[zEj,zA1]
 | snoc l y ih =>
  rw[zIu,zLJ,ih];by_cases h:y=x
  ·subst h; simp
  ·have:¬zBb y=zBb x:=fun e=>h (zF2.1 e)
   have h':¬x=y:=fun e=>h e.symm
   simp[this,h']
theorem zV2 (l:List Id)(k:Nat):∀p∈zEj l,p.2.bnd k=true:=by
 induction l using zBy with
 | nil=>simp[zEj]
 | snoc l y ih =>
  rw[zIu];have:∀es:List (List Int×A),(∀p∈es,p.2.bnd k=true)→∀p∈zDm (zBb y) (.lit (.bool true)) es,p.2.bnd k=true:=by
   intro es;induction es with
   | nil=>intro _ p hp; simp[zDm]at hp; subst hp; rfl
   | cons q es ih =>
    intro h p hp;simp only[zDm]at hp;split at hp
    ·rcases List.mem_cons.1 hp with rfl | hp
     ·rfl
     ·exact h p (List.mem_cons_of_mem _ hp)
    ·rcases List.mem_cons.1 hp with rfl | hp
     ·exact h _ (List.mem_cons_self ..)
     ·exact ih (fun p hp=>h p (List.mem_cons_of_mem _ hp)) p hp
  exact this _ ih
@[simp] theorem qKD {rf:Bool→Nat→Nat→A}{g:Nat→Option Nat}(l:List Id):((zEj l).map fun p=>(p.1,vw rf g p.2))=zEj l:=by
 have h:=zV2 l 0;generalize zEj l=es at h;induction es with
 | nil=>rfl
 | cons p es ih =>
  rw[List.map_cons,ih fun q hq=>h q (List.mem_cons_of_mem _ hq),zWo (k:=0) (fun l hl=>by omega) p.2 (h p (List.mem_cons_self ..))]
theorem zTJ (l:List Id)(x:Id):Ret Tryz.prog 71 [.agg (qX x),.ptr 0 0] [.box [.map 1],.mp true 3 (zEj l)] (bl (decide (x∈l))) [.box [.map 1],.mp true 3 (zEj l)]:=by
 refine zK Tryz.func71 rfl qAC (rs:=[.slot 3]) (by kernel_rfl) ?_;unfold zTk;have hf:=zPA x l;simp only[zBb]at hf;simp[qX];have hr:zF1 (Value.bool false) false (zA1 [x.a,x.b,x.c] (zEj l))=.lit (.bool (decide (x∈l))):=by rw[hf];by_cases h:x∈l<;>simp[zF1,h,zGl,jC]
 rw[hr];exact zG [0,1] 0 (by decide) (by simp) (by simp) (by simp)
def zPO (l ids:List Id):Int:=match ids.findIdx? (fun x=>decide (x∈l))with
 | some i=>i
 | none=>-1
theorem zOd (l ids:List Id):decide (0≤zPO l ids)=ids.any fun x=>decide (x∈l):=by
 unfold zPO;cases h:ids.findIdx? (fun x=>decide (x∈l))with
 | none =>
  rw[List.findIdx?_eq_none_iff]at h;have:(ids.any fun x=>decide (x∈l))=false:=by rw[List.any_eq_false]; exact fun x hx=>by simpa using h x hx
  rw[this]; rfl
 | some i =>
  have h':=List.findIdx?_eq_some_iff_getElem.1 h;obtain⟨hi,h1,_⟩:=h';have:(ids.any fun x=>decide (x∈l))=true:=by rw[List.any_eq_true]; exact⟨_,List.getElem_mem hi,h1⟩
  rw[this]; simp
theorem zS5 (l ids:List Id):Ret Tryz.prog 117 [.sl ids.length (qF ids),.clo 71 [] [.ptr 0 0]] [.box [.map 1],.mp true 3 (zEj l)] (int (zPO l ids)) [.box [.map 1],.mp true 3 (zEj l)]:=by
 refine zK Tryz.func117 rfl zWC (rs:=[.slot 4]) (by kernel_rfl) ?_;unfold zQE;simp;intro hl;refine qZ (S:=Nat) (fun i=>[(0,.sl ids.length (qF ids)),(1,.clo 71 [] [.ptr 0 0]),(7,int ids.length),(8,int i)]) (fun i=>[.box [.map 1],.mp true 3 (zEj l)]) (fun i=>i≤ids.length∧∀x∈ids.take i,x∉l) (fun i=>ids.length-i) 0 (by simp)
  (zS [0,1] 0 (by decide) (by simp) (by simp) (by simp)) ?_
 rintro i ⟨hi,hn⟩;by_cases h:i<ids.length
 ·simp[h,yK h];refine zN (zTJ l ids[i]) [0,1] (by simp) (by simp) (by simp[qX]) ?_;simp;by_cases hx:ids[i]∈l
  ·have:zPO l ids=i:=by
    unfold zPO;rw[List.findIdx?_eq_some_iff_getElem.2 ⟨h,by simpa using hx,fun j hj=>by
     have:=hn ids[j] (by rw[List.mem_take_iff_getElem]; exact⟨j,by omega,rfl⟩)
     simpa using this⟩]
   simp[hx];exact zG [0,1] 0 (by decide) (by simp) (by simp) (by simp[this])
  ·simp[hx];exact zT (i+1) ⟨h,fun x hx'=>by
    rw[List.take_succ_eq_append_getElem h]at hx';rcases List.mem_append.1 hx' with hx' | hx'
    ·exact hn x hx'
    ·rw[List.mem_singleton.1 hx']; exact hx⟩ (by omega) (zS [0,1] 0 (by decide) (by simp) (by simp) (by simp[qB h hl]))
 ·have:i=ids.length:=by omega
  subst this;rw[List.take_length]at hn;have:zPO l ids = -1:=by unfold zPO;rw[List.findIdx?_eq_none_iff.2 fun x hx=>by simpa using hn x hx]
  simp;exact zG [0,1] 0 (by decide) (by simp) (by simp) (by simp[this])
theorem zUu (l ids:List Id):Ret Tryz.prog 70 [.sl ids.length (qF ids),.clo 71 [] [.ptr 0 0]] [.box [.map 1],.mp true 3 (zEj l)] (bl (ids.any fun x=>decide (x∈l))) [.box [.map 1],.mp true 3 (zEj l)]:=by refine zK Tryz.func70 rfl qAD (rs:=[.slot 4]) (by kernel_rfl) ?_;unfold zTl;simp;refine zN (zS5 l ids) [0,1] (by simp) (by simp) (by simp) ?_;simp;exact zG [0,1] 0 (by decide) (by simp) (by simp) (by rw[←zOd]; simp)
theorem zW5 (t:Trc)(ids l:List Id)(hl:l=t.defs++t.nodes)(h:l.length≤1000000):Ret Tryz.prog 29 [.agg (zAy t),.sl ids.length (qF ids)] [] (bl (ids.any fun x=>decide (x∈l))) []:=by
 refine zK Tryz.func29 rfl qGq (rs:=[.slot 4]) (by kernel_rfl) ?_;unfold zYH;have e1:[t.defs,t.nodes].flatten=l:=by simp[hl]
 simp[zAy];refine zR (zE1 [t.defs,t.nodes] (by rw[zCT,e1]; exact h)) (by simp[zBe]) (by simp) ?_;rw[zCT,e1];simp;intro hlm;refine qZ (S:=Nat) (fun i=>[(1,.sl ids.length (qF ids)),(5,.ptr 0 0),(14,.sl l.length (qF l)),(15,int l.length),(16,int i)]) (fun i=>[.box [.map 1],.mp true 3 (zEj (l.take i))]) (fun i=>i≤l.length) (fun i=>l.length-i) 0 (by simp)
  (zS [2,1] 0 (by simp) (by simp) (by simp[zEj]) (by simp)) ?_
 intro i hi;by_cases h:i<l.length
 ·have hs:=zIu (l.take i) l[i];rw[←List.take_succ_eq_append_getElem h,zBb]at hs;simp[h,yK h];rw[←hs];exact zT (i+1) h (by omega) (zS [0,1] 0 (by simp) (by simp) (by simp) (by simp[qB h hlm]))
 ·have:i=l.length:=by omega
  subst this;simp;refine zN (zUu l ids) [0,1] (by simp) (by simp) (by simp) ?_;simp;exact zC 0 (by simp)
end Go.Proofs.YthglhccibdlccaaGreatDoor
