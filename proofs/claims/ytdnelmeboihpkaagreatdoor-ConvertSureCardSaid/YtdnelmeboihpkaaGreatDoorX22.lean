/-
  domain.all: the values of a type up to a bound.
  domain.Values.
  convert.Agree.
  The values of a domain are small.
  The example of the law on converters.
-/
import Derived.Test.YtdnelmeboihpkaaGreatDoorX21
import Derived.Test.YtdnelmeboihpkaaGreatDoorX20
import Derived.Test.YtdnelmeboihpkaaGreatDoorX19
import Derived.Test.YtdnelmeboihpkaaGreatDoorX13
import Derived.Test.YtdnelmeboihpkaaGreatDoorX18
set_option linter.unusedVariables false
set_option maxHeartbeats 8000000
set_option maxRecDepth 100000
set_option linter.unusedSimpArgs false
open Go.Proofs.Tryz (prog)
namespace Go.Proofs.YtdnelmeboihpkaaGreatDoor
open Go.Abs
def qFL:K:=G [kO 3 0,kO 4 1,kMn 6] (G [kZ 7 [kl]] (Z (G [D 21 4 0,L 22 21 1] (K.block 0 (G [kQi 24 22 0 false,M 23 24] (Y 23 (Z (G [M 25 2,⟨none,.neg (some 26) (kt 25)⟩,M 8 26] (K.block 1 (K.loop (Z (G [M 27 8,M 28 2,kB 29 27 28 .leq] (Y 29 ks (K.exit 1))) (Z (K.block 2 (K.dops [(0,0,L 32 7 1),(1,0,M 33 8),(2,0,kb 34 [ki,ki,kl] [(0,1,(kc 0)),(1,1,(kt 33))]),(3,0,kN 35 32),(4,0,kd 36 46 3 1 [ki,ki,kl] [(0,3,(.const (.agg #[ki,ki,kl])))]),(5,0,kP 37 46 3 40 32 36),(6,6,kX 38 37 35 3),(7,6,S 38 34 3),(8,5,S 7 37 1)])) (K.ops [M 30 8,kBi 31 30 1 .add,M 8 31])))))) (G [L 39 7 1,M 6 39] kr)) (G [kQi 41 22 1 false,M 40 41] (Y 40 (G [kb 42 [ki,ki,kl] [(0,1,(kc 1))],kb 43 [ki,ki,kl] [(0,1,(kc 1)),(1,1,(kc 1))],⟨none,.brow (some 44) 46 3 2 [ki,ki,kl,ki,ki,kl] [(0,3,(kt 42)),(3,3,(kt 43))]⟩,M 6 44] kr) (G [kQi 46 22 2 false,M 45 46] (Y 45 (Z (K.dops [(0,1,J 47 3 2),(1,1,D 48 4 4),(2,1,L 49 48 1),(3,1,kXi 50 49 5 0),(4,1,J 51 50 5),(5,0,M 52 2),(6,3,kC 53 76 [(kt 47),(kt 51),(kt 52)]),(7,0,M 9 53)]) (Z (G [M 54 2,⟨none,.mm (some 55) false [(kt 54),(kc 2)]⟩,kBi 56 55 1 .add,kMi 57 0] (K.block 3 (K.loop (G [kB 58 57 56 .lss] (Z (Y 58 ks (K.exit 3)) (Z (K.block 4 (G [M 59 57,M 10 59] (G [M 60 9,kd 61 44 1 1 [kl] [(0,1,(kt 60))],M 62 10,kC 63 119 [(kt 61),(kt 62)],kC 64 118 [(kt 63)]] (K.block 5 (K.rng (kt 64) [65] (K.ops [M 11 65]) (K.block 6 (K.dops [(0,0,L 66 7 1),(1,0,
 M 67 11),(2,0,kb 68 [ki,ki,kl] [(0,1,(kc 4)),(2,1,(kt 67))]),(3,0,kN 69 66),(4,0,kd 70 46 3 1 [ki,ki,kl] [(0,3,(.const (.agg #[ki,ki,kl])))]),(5,0,kP 71 46 3 40 66 70),(6,6,kX 72 71 69 3),(7,6,S 72 68 3),(8,5,S 7 71 1)]))))))) (K.ops [kBi 73 57 1 .add,M 57 73]))))))) (G [L 74 7 1,M 6 74] kr))) ks)))))))) (G [J 76 3 2,D 77 4 1,J 78 77 3,kC 79 96 [(kt 76),(kt 78)],M 75 79,kE 80 75 0,kE 81 75 1,kZ 12 kz0,S 12 80 31,M 13 81] (G [kMn 14] (Z (G [D 82 12 8,L 83 82 1,kN 84 83,kMi 85 0] (K.block 7 (K.loop (G [kB 86 85 84 .lss] (Z (Y 86 ks (K.exit 7)) (Z (K.block 8 (G [M 87 85,kX 88 83 85 11,J 89 88 11,kZ 16 kz5,M 15 87,S 16 89 11] (G [J 90 3 2,D 91 16 4,J 92 91 5,M 93 2,kC 94 76 [(kt 90),(kt 92),(kt 93)],M 17 94] (G [M 95 14,M 96 17,kd 97 44 1 1 [kl] [(0,1,(kt 96))],kP 98 44 1 24 95 97,M 14 98] (G [M 99 17,kN 100 99,kMi 101 0] (K.block 9 (K.loop (G [kB 102 101 100 .lss] (Z (Y 102 ks (K.exit 9)) (Z (K.block 10 (G [kX 103 99 101 3,J 104 103 3,kZ 19 [ki,ki,kl],S 19 104 3] (G [D 105 12 3,L 106 105 1,kQi 107 106 1 false] (Y 107 (K.dops [(0,0,L 108 7 1),(1,0,M 109 15),(2,0,J 110 19 3),(3,0,kd 111 46 3 1 [ki,ki,kl] [(0,3,(kt 110))]),(4,0,kb 112 [ki,ki,kl] [(0,1,(kc 3)),(1,1,(kt 109)),(2,1,(kt 111))]),(5,0,kN 113 108),(6,0,kd 114 46 3 1 [ki,ki,kl] [(0,3,(.const (.agg #[ki,ki,kl])))]),(7,0,kP 115 46 3 40 108 114),(8,6,kX 116 115 113 3),(9,6,S 116 112 3),(10,5,S 7 115 1)]) ks)))) (K.ops [kBi 117 101 1 .add,M 101 117]))))))))))) (K.ops [kBi 118 85 1 .add,M 85 118]))))))) (Z (G [D 119 12 3,
 L 120 119 1,kQi 121 120 0 false] (Y 121 (K.wk (G [M 122 14,kC 123 118 [(kt 122)]] (K.block 11 (K.rng (kt 123) [124] (K.ops [M 20 124]) (K.block 12 (K.dops [(0,0,L 125 7 1),(1,0,M 126 20),(2,0,kb 127 [ki,ki,kl] [(0,1,(kc 2)),(2,1,(kt 126))]),(3,0,kN 128 125),(4,0,kd 129 46 3 1 [ki,ki,kl] [(0,3,(.const (.agg #[ki,ki,kl])))]),(5,0,kP 130 46 3 40 125 129),(6,6,kX 131 130 128 3),(7,6,S 131 127 3),(8,5,S 7 130 1)])))))) ks)) (G [L 132 7 1,M 6 132] kr)))))))
def zJH:Nat→Option (List (Nat×Nat)):=fun r=>match r with | 12=>some [(0,1),(1,1),(2,1),(3,1),(4,1),(5,0),(6,3),(7,0)] | 7=>some [(0,0),(1,0),(2,0),(3,0),(4,0),(5,0),(6,6),(7,6),(8,5)] | 18=>some [(0,0),(1,0),(2,0),(3,0),(4,0),(5,0),(6,6),(7,6),(8,5)] | 38=>some [(0,0),(1,0),(2,0),(3,0),(4,0),(5,0),(6,6),(7,6),(8,5)] | 32=>some [(0,0),(1,0),(2,0),(3,0),(4,0),(5,0),(6,0),(7,0),(8,6),(9,6),(10,5)] | _=>none
theorem qML:qF prog Tryz.f76.ntmps zJH (Tryz.f76.body.getD .skip)=some qFL.erase:=by kernel_rfl
@[simp] theorem qNq:zA prog 76=true:=by kernel_rfl
def zCR (m:Int):List Val:=(List.range (2*m+1).toNat).map fun(i:Nat)=>.mk 0 (i-m) []
def zKP (m:Int)(e:List Val):List Val:=(List.range ((if 2<m then 2 else m)+1).toNat).flatMap fun k=>(yX (List.replicate k e)).map (.mk 4 0)
def jP (i:Int):List (List Val)→List Val
 | []=>[]
 | l::r=>l.map (fun v=>.mk 3 i [v])++jP (i+1) r
def zDY (l:List (List Val)):List Val:=(yX l).map (.mk 2 0)
def zEn (k:Int)(l:List (List Val)):List Val:=if k=0 then zDY l else if k=1 then jP 0 l else []
def zA5 (p:Prg)(m:Int):Nat→Typ→List Val
 | 0,_=>[]
 | n+1,t=>if t.k=0 then zCR m else if t.k=1 then [.mk 1 0 [],.mk 1 1 []] else if t.k=2 then zKP m (zA5 p m n (t.kids.headD Typ.zero))
  else zEn (dfn p t.id).kind ((dfn p t.id).slots.map fun s=>zA5 p m n s.typ)
theorem zIc:∀(l acc:List (List Val)),(l.foldl zBW acc).length=acc.length*(l.map List.length).foldl (· * ·) 1
 | [],acc=>by simp
 | a::l,acc=>by
  have h:∀(l:List Nat) (x y:Nat),l.foldl (· * ·) (x*y)=x*l.foldl (· * ·) y:=by
   intro l;induction l with
   | nil=>intro x y; rfl
   | cons a l ih=>intro x y; simp only[jBz,Nat.mul_assoc,ih]
  simp only[jBz,jA9,zIc l,zC5,Nat.one_mul];have:=h (l.map List.length) a.length 1;rw[Nat.mul_one]at this;rw[this,Nat.mul_assoc]
theorem zMS:∀(l:List (List Val)) (z:List Sz) (a b:Int),z.map (·.a)=l.map (fun x=>(x.length:Int))→(zDm a b z).e=0→(zDm a b z).a=a*((l.map List.length).foldl (· * ·) 1:Nat)
 | [],[],a,b,_,_=>by simp[zDm]
 | x::l,k::z,a,b,h,he=>by
  simp only[jA9,jAu]at h;simp only[zDm]at he ⊢;split at he
  ·simp at he
  ·rename_i hn;rw[if_neg hn,zMS l z _ _ h.2 he,h.1];have hh:∀(l:List Nat) (x y:Nat),l.foldl (· * ·) (x*y)=x*l.foldl (· * ·) y:=by
    intro l;induction l with
    | nil=>intro x y; rfl
    | cons a l ih=>intro x y; simp only[jBz,Nat.mul_assoc,ih]
   have:=hh (l.map List.length) x.length 1;rw[Nat.mul_one]at this;simp only[jA9,jBz,Nat.one_mul,this];rw[Int.natCast_mul,Int.mul_assoc]
 | [],_::_,_,_,h,_=>by simp at h
 | _::_,[],_,_,h,_=>by simp at h
theorem zKh:∀(l:List (List Val)) (z:List Sz) (i a b:Int),z.map (·.a)=l.map (fun x=>(x.length:Int))→(zC9 a b z).a=a+(jP i l).length
 | [],[],i,a,b,_=>by simp[zC9,jP]
 | x::l,k::z,i,a,b,h=>by simp only[jA9,jAu]at h;simp only[zC9,jP,jA7,jB4];rw[zKh l z (i+1) _ _ h.2,h.1];omega
 | [],_::_,_,_,_,h=>by simp at h
 | _::_,[],_,_,_,h=>by simp at h
theorem zRs (m:Int)(hm:0≤m)(e:List Val)(k:Sz)(hk:k.a=e.length)(he:k.e=0):(zBf m k).a=(zKP m e).length:=by
 have h2:zBW (zBW [[]] e) e=yX [e,e]:=rfl;unfold zBf zKP;rw[if_neg (by simp[he])];have c0:m=0∨m=1∨2≤m:=by omega
 rcases c0 with rfl | rfl | hm
 ·simp[List.range_succ]
 ·simp[List.range_succ,yX,zC5,hk]; omega
 ·have e1:((if 2<m then 2 else m)+1).toNat=3:=by split<;>omega
  rw[e1,if_neg (by omega),if_neg (by omega)];simp[List.range_succ,yX,zC5,hk,List.replicate];omega
theorem zWz {p:Prg}{m:Int}{n:Nat}(ih:∀t,(jM p m n t).e=0→(jM p m n t).a=(zA5 p m n t).length):∀(l:List Slt),zDf (l.map fun s=>jM p m n s.typ)=0 →
 (l.map fun s=>jM p m n s.typ).map (·.a)=(l.map fun s=>zA5 p m n s.typ).map (fun x=>(x.length:Int)):=by
 intro l h;have h0:=zCm h;rw[jC5,jC5];apply jBr;intro s hs;exact ih s.typ (h0 _ (List.mem_map_of_mem hs))
theorem zDS {k:Sz}(h:(zBv k).e=0):k.e=0∧(zBv k).a=k.a∧k.a≤4096:=by
 unfold zBv at h⊢;split at h
 ·simp at h; contradiction
 ·rename_i h1;split at h
  ·simp at h
  ·rename_i h2;rw[if_neg h1,if_neg h2];simp at h1;exact⟨h1,rfl,by omega⟩
theorem zFr {p:Prg}{n:Nat}{t:Typ}(h:yH p n t=true)(h0:t.k≠0)(h1:t.k≠1)(h2:t.k≠2):(dfn p t.id).kind=0∨(dfn p t.id).kind=1:=by
 cases n with
 | zero=>simp[yH]at h
 | succ n =>
  cases t with
  | mk k id kids =>
   simp only[Typ.k_mk]at h0 h1 h2;unfold dfn;simp only[yH,Typ.k_mk,Typ.id_mk,Typ.kids_mk,h2,if_false]at h;by_cases hk:kids=[]
   ·by_cases h3:k=3
    ·cases hf:qW p.defs id with
     | none=>simp[hk,h3,hf,zFW]at h
     | some d=>simpa [hk,h3,hf,zFW] using h
    ·simp[hk,h3,h0,h1]at h
   ·simp[hk]at h
theorem zDC (p:Prg)(m:Int)(hm:0≤m):∀(n:Nat) (t:Typ),(jM p m n t).e=0→(jM p m n t).a=(zA5 p m n t).length
 | 0,t,h=>by unfold jM at h;split at h<;>simp at h
 | n+1,t,h=>by
  unfold jM zA5 at *
  split at h
  ·simp at h
  rename_i hv;have hv:validT p t=true:=by simpa using hv
  rw[if_neg (by simp[hv])];by_cases h0:t.k=0
  ·simp[h0,zCR]; omega
  by_cases h1:t.k=1
  ·simp[h1]
  by_cases h2:t.k=2
  ·rw[if_neg h0,if_neg h1,if_pos h2]at h⊢;rw[if_neg h0,if_neg h1,if_pos h2];obtain⟨e1,e2,_⟩:=zDS h;have e3:(jM p m n (t.kids.headD Typ.zero)).e=0:=by
    by_cases hz:(jM p m n (t.kids.headD Typ.zero)).e=0
    ·exact hz
    ·exact absurd e1 (by rw[zBf,if_pos hz]; exact hz)
   rw[e2];exact zRs m hm _ _ (zDC p m hm n (t.kids.headD Typ.zero) e3) e3
  ·rw[if_neg h0,if_neg h1,if_neg h2]at h⊢;rw[if_neg h0,if_neg h1,if_neg h2];obtain⟨e1,e2,_⟩:=zDS h;rw[e2];have e3:zDf ((dfn p t.id).slots.map fun s=>jM p m n s.typ)=0:=by
    by_cases hz:zDf ((dfn p t.id).slots.map fun s=>jM p m n s.typ)=0
    ·exact hz
    ·exact absurd e1 (by simp[yQ,hz])
   have e4:=zWz (fun t=>zDC p m hm n t) _ e3;have e5:=zFr hv h0 h1 h2;unfold zEn;rcases e5 with e5 | e5
   ·rw[if_pos e5];have ee:yQ (decide ((dfn p t.id).kind=0)) ((dfn p t.id).slots.map fun s=>jM p m n s.typ)=zDm 1 1 ((dfn p t.id).slots.map fun s=>jM p m n s.typ):=by simp[yQ,e3,e5]
    rw[ee]at e1 ⊢;rw[zMS _ _ _ _ e4 e1,zDY,jB4,yX,zIc];simp
   ·rw[if_neg (by omega),if_pos e5];have ee:yQ (decide ((dfn p t.id).kind=0)) ((dfn p t.id).slots.map fun s=>jM p m n s.typ)=zC9 0 1 ((dfn p t.id).slots.map fun s=>jM p m n s.typ):=by simp[yQ,e3,e5]
    rw[ee,zKh _ _ 0 _ _ e4];simp
def num (x:Int):Val:=.mk 0 x []
theorem zTU {m:Int}{j:Nat}(h:j<(2*m+1).toNat):(zCR m).take (j+1)=(zCR m).take j++[.mk 0 (j-m) []]:=by rw[jAh (by simpa [zCR] using h)];simp[zCR]
def yW (X:List Val)(j:Nat):List Val:=(List.range j).flatMap fun k=>(yX (List.replicate k X)).map (.mk 4 0)
mutual
theorem zTe:∀(a:A) (k:Nat),vw jH (fun _=>none) a=a→a.bnd k=true
 | .any,k,h=>rfl
 | .nil,k,h=>rfl
 | .lit _,k,h=>rfl
 | .agg cs,k,h=>by simp only[vw,A.agg.injEq]at h; simpa [A.bnd] using zBl cs k h
 | .tup cs,k,h=>by simp only[vw,A.tup.injEq]at h; simpa [A.bnd] using zBl cs k h
 | .sl n cs,k,h=>by simp only[vw,A.sl.injEq]at h; simpa [A.bnd] using zBl cs k h.2
 | .fsl n cs,k,h=>by simp only[vw,A.fsl.injEq]at h; simpa [A.bnd] using zBl cs k h.2
 | .ptr l off,k,h=>by simp[vw]at h
 | .rptr cs,k,h=>by simp only[vw,A.rptr.injEq]at h; simpa [A.bnd] using zBl cs k h
 | .row l n,k,h=>by simp[vw,jH]at h
 | .rwp l n off,k,h=>by simp[vw]at h
 | .map l,k,h=>by simp[vw]at h
 | .clo f first cap,k,h=>by simp only[vw,A.clo.injEq,true_and]at h;simp[A.bnd,zBl first k h.1,zBl cap k h.2]
theorem zBl:∀(cs:List A) (k:Nat),vwL jH (fun _=>none) cs=cs→zAZ k cs=true
 | [],k,h=>rfl
 | c::cs,k,h=>by simp only[vwL,jAu]at h;simp[zAZ,zTe c k h.1,zBl cs k h.2]
end
theorem zFZ (X:List Val)(j:Nat):yW X (j+1)=yW X j++(yX (List.replicate j X)).map (.mk 4 0):=by simp[yW,List.range_succ]
theorem zRr (X:List Val)(j d:Nat):∃R,yW X (j+d)=yW X j++R:=by
 induction d with
 | zero=>exact⟨[],by simp⟩
 | succ d ih =>
  obtain⟨R,hR⟩:=ih;exact⟨R++(yX (List.replicate (j+d) X)).map (.mk 4 0),by rw[←jBi,zFZ,hR,jB1]⟩
theorem zPz {X:List Val}{j N i:Nat}(h:j<N)(hi:i<(yX (List.replicate j X)).length) :
 (yW X N).take ((yW X j).length+(i+1))=(yW X N).take ((yW X j).length+i)++[.mk 4 0 (yX (List.replicate j X))[i]]∧(yW X j).length+(i+1)≤(yW X N).length:=by
 obtain⟨R,hR⟩:=zRr X (j+1) (N-(j+1));rw[show j+1+(N-(j+1))=N by omega,zFZ]at hR;have hl:(yW X j).length+(i+1)≤(yW X N).length:=by rw[hR]; simp; omega
 refine⟨?_,hl⟩;rw[←jBi,jAh (by omega)]
 congr 2
 have:(yW X N)[(yW X j).length+i]?=some (.mk 4 0 (yX (List.replicate j X))[i]):=by rw[hR,jB1,jAo (by omega),Nat.add_sub_cancel_left,jAc (by simpa using hi)];simp[hi]
 rw[jA2 (by omega)]at this;exact jAz this
theorem zQ9 (l:List Typ)(k:Nat):zAZ k (jV l)=true:=zBl _ k ((yI l).2 _ _)
attribute [simp] zQ9
@[simp] theorem qPz:zA prog 119=true:=by kernel_rfl
theorem zEg (i:Int):∀(l r:List (List Val)),jP i (l++r)=jP i l++jP (i+l.length) r
 | [],r=>by simp[jP]
 | x::l,r=>by have h:=zEg (i+1) l r;simp only[jB9,jP,h,jAl,jB1];rw[show i+1+(l.length:Int)=i+((l.length+1:Nat):Int) by omega]
theorem zO6 {L:List (List Val)}{j:Nat}(h:j<L.length):jP 0 (L.take (j+1))=jP 0 (L.take j)++L[j].map (fun v=>.mk 3 j [v]):=by rw[jAh h,zEg];simp[jP,jAw (Nat.le_of_lt h)]
theorem zO7 {L:List (List Val)}{j k:Nat}(h:j<L.length)(hk:k<L[j].length) :
 (jP 0 L).take ((jP 0 (L.take j)).length+(k+1))=(jP 0 L).take ((jP 0 (L.take j)).length+k)++[.mk 3 j [L[j][k]]]∧(jP 0 (L.take j)).length+(k+1)≤(jP 0 L).length:=by
 have hR:jP 0 L=jP 0 (L.take j)++(L[j].map (fun v=>Val.mk 3 j [v])++jP ((j:Int)+1) (L.drop (j+1))):=by
  conv=>lhs; rw[←jCd j L]
  rw[zEg,jAy h];simp[jP,jAw (Nat.le_of_lt h)]
 have hl:(jP 0 (L.take j)).length+(k+1)≤(jP 0 L).length:=by rw[hR]; simp; omega
 refine⟨?_,hl⟩;rw[←jBi,jAh (by omega)]
 congr 2
 have:(jP 0 L)[(jP 0 (L.take j)).length+k]?=some (.mk 3 j [L[j][k]]):=by rw[hR,jAo (by omega),Nat.add_sub_cancel_left,jAc (by simpa using hk)];simp[hk]
 rw[jA2 (by omega)]at this;exact jAz this
theorem zOw {X:List Val}{j:Nat}(h:j≤X.length):(∀ds,(zJ (X.take j)++ds).take (j*3)=zJ (X.take j))∧(∀ds,(zJ (X.take j)++ds).drop (j*3+3)=ds.drop 3):=by
 have hl:(zJ (X.take j)).length=j*3:=by simp[jAw h]
 refine⟨fun ds=>by rw[←hl]; simp,fun ds=>by rw[←hl,List.drop_append]; simp⟩
theorem qBk (p:Prg)(hs:Sml p)(m:Int)(hm:0≤m∧m≤64):∀(n:Nat) (t:Typ),(jM p m n t).e=0→Ret prog 76 [.agg (zM p),.agg (zS t),int m] [] (.row 0 (zA5 p m n t).length) [.row false 46 3 (zA5 p m n t).length (zJ (zA5 p m n t))]:=by
 intro n;induction n with
 | zero =>
  intro t h;unfold jM at h;split at h<;>simp at h
 | succ n ih =>
  intro t h;have hlen:=zDC p m hm.1 (n+1) t h;have hle:=zBy p m hm (n+1) t h;refine qS Tryz.func76 rfl qML (rs:=[.slot 6]) (by kernel_rfl) ?_;unfold qFL;unfold jM at h;split at h
  ·simp at h
  rename_i hv;have hv:validT p t=true:=by simpa using hv
  by_cases h0:t.k=0
  ·have ha:zA5 p m (n+1) t=zCR m:=by rw[zA5,if_pos h0]
   rw[ha];have hli:(zCR m).length=(2*m+1).toNat:=by simp[zCR]
   have hw0:=jT (0-m) (by omega);have hw0':IntKind.i64.wrap (-m) = -m:=IntWalk.i64_in _ (by omega);simp -implicitDefEqProofs [zM,zS,h0,hw0,hw0'];refine jX (S:=Nat) (fun j=>[(2,int m),(6,.nil),(7,.ptr 2 0),(8,int (j-m))])
    (fun j=>[.box (zM p),.box (zS t),.box [.row 3 j],.row false 46 3 j (zJ ((zCR m).take j))])
    (fun j=>(j:Int)≤2*m+1) (fun j=>(2*m+1).toNat-j) 0 (by simp; omega)
    ((zBj (l:=2) (o:=0) rfl rfl 46 3).trans (zP [0,1,2,3] 0 (by simp) (by simp) (by simp[zM,zS,h0]) (by simp))) ?_
   intro j hj;by_cases hjl:(j:Int)-m≤m
   ·have htk:=zTU (m:=m) (j:=j) (by omega);have hw1:=jT ((j:Int)-m+1) (by omega);have hll:((zCR m).take j).length=j:=by simp; omega
    have hjx:j≤(zCR m).length:=by omega
    simp -implicitDefEqProofs [hjl,zFT,zF1,hw1,jAw hjx,(zOw hjx).1,(zOw hjx).2];refine⟨⟨by simp[maxLen]; omega,by omega⟩,by omega,?_⟩;exact zU (j+1) (by omega) (by omega) (zP [0,1,2,3] 0 (by simp) (by simp) (by simp[zM,zS,h0,htk,zC,Val.k,Val.n,Val.kids]) (by simp; omega))
   ·have hjj:(j:Int)=2*m+1:=by omega
    have hjn:j=(zCR m).length:=by omega
    have htk:(zCR m).take j=zCR m:=by rw[hjn]; exact jAm (jA _)
    simp -implicitDefEqProofs [hjl,htk];exact zI [3] 0 (by simp) (by simp) (by simp[hjn]) (by simp[hjn])
  by_cases h1:t.k=1
  ·have ha:zA5 p m (n+1) t=[.mk 1 0 [],.mk 1 1 []]:=by rw[zA5,if_neg h0,if_pos h1]
   rw[ha];simp -implicitDefEqProofs [zM,zS,h1];exact zI [3] 0 (by simp) (by simp) (by simp[zC,Val.k,Val.n,Val.kids]) (by simp)
  by_cases h2:t.k=2
  ·obtain⟨x,hx⟩:=zJB hv h2;rw[if_neg h0,if_neg h1,if_pos h2,hx]at h;obtain⟨e1,_,_⟩:=zDS h;have e3:(jM p m n x).e=0:=by
    by_cases hz:(jM p m n x).e=0
    ·exact hz
    ·exact absurd e1 (by rw[List.headD_cons,zBf,if_pos hz]; exact hz)
   have ha:zA5 p m (n+1) t=yW (zA5 p m n x) ((if 2<m then 2 else m)+1).toNat:=by rw[zA5,if_neg h0,if_neg h1,if_pos h2,hx]; rfl
   have hex:=zBy p m hm n x e3;have hel:=zDC p m hm.1 n x e3;have ih:=ih x e3;rw[ha]at hlen ⊢;generalize zA5 p m n x=X at ih hel hlen;simp -implicitDefEqProofs [zM,zS,h2,hx];refine zNw ih (by simp[zM,zS,zDN]) ?_;obtain⟨K,hK,hK2⟩:∃K:Nat,(if 2<m then 2 else m)+1=(K:Int)∧K≤3:=⟨((if 2<m then 2 else m)+1).toNat,by split<;>omega,by split<;>omega⟩;have hw3:IntKind.i64.wrap ((if 2<m then 2 else m)+1)=(K:Int):=by rw[←hK]; exact IntWalk.i64_in _ (by split<;>omega)
   rw[hK]at hlen ⊢;simp only[jCn]at hlen ⊢;have hW:(yW X K).length≤4096:=by omega
   simp -implicitDefEqProofs [hw3];refine jX (S:=Nat) (fun j=>[(7,.ptr 2 0),(9,.sl X.length (zJ X)),(56,int K),(57,int j)])
    (fun j=>[.box (zM p),.box (zS t),.box [.row 3 (yW X j).length],.row false 46 3 (yW X j).length (zJ ((yW X K).take (yW X j).length))])
    (fun j=>j≤K) (fun j=>K-j) 0 (by simp)
    ((zBj (l:=2) (o:=0) rfl rfl 46 3).trans (zP [0,1,2,4] 1 (by simp) (by simp) (by simp[zM,zS,h2,hx,yW]) (by simp))) ?_
   intro j hj;by_cases hjl:j<K
   ·have hw4:=zBg j (by omega);simp -implicitDefEqProofs [hjl,hw4];have hrep:Ret prog 119 [.sl 1 (jW [X]),int j] [] (.sl (List.replicate j X).length (jW (List.replicate j X))) []:=by have:=zUu j (by omega) (.sl X.length (zJ X));rw[List.length_replicate,jW,jW,List.map_replicate];exact this
    refine qK hrep (by simp) (by simp) ?_;simp -implicitDefEqProofs;refine qK (zIX (List.replicate j X)) (by simp) (by simp) ?_;simp -implicitDefEqProofs;have hc1:(yW X (j+1)).length=(yW X j).length+(yX (List.replicate j X)).length:=by rw[zFZ]; simp
    refine⟨[(7,.ptr 2 0),(9,.sl X.length (zJ X)),(56,int K),(57,int j),(64,.clo 154 [] [.rptr [.sl (List.replicate j X).length (jW (List.replicate j X))]])],4,(yX (List.replicate j X)).map (fun t=>[zDJ t]),
     fun i=>[.box (zM p),.box (zS t),.box [.row 3 ((yW X j).length+i)],.row false 46 3 ((yW X j).length+i) (zJ ((yW X K).take ((yW X j).length+i)))],
     154,[],[.rptr [.sl (List.replicate j X).length (jW (List.replicate j X))]],by simp,zQ4,zS6 _ _ rfl (by simp; omega),zI5 (τ:=[]) (by simp) (by simp) (by simp) (by simp) (by simp[zM,zS]),by omega,?_,by simp,by simp,?_,?_⟩
    ·intro i hi;simp[zM,zS]
    ·intro i hi b' M r r';simp only[jB4]at hi;obtain⟨htk,hle⟩:=zPz hjl hi;have hlx:(yW X j).length+i≤(yW X K).length:=by omega
     have hcast:(((yW X j).length:Int)+(i:Int)).toNat=(yW X j).length+i:=by omega
     simp -implicitDefEqProofs [zFT,zF1,jAw hlx,(zOw hlx).1,(zOw hlx).2,hcast];refine⟨⟨by simp[maxLen]; omega,by omega⟩,⟨by omega,by omega⟩,?_⟩;refine⟨qC [],_,?_,rfl⟩;exact zP [0,1,2,3,4] 0 (by decide) (by simp) (by simp[zM,zS,htk,zC,Val.k,Val.n,Val.kids,jBi]) (by simp)
    ·simp -implicitDefEqProofs;exact zU (j+1) hjl (by omega) (zP [0,1,2,3] 0 (by simp) (by simp) (by simp[hc1,zM,zS]) (by simp[hw4]))
   ·have hjj:j=K:=by omega
    subst hjj;simp -implicitDefEqProofs;exact zI [3] 0 (by simp) (by simp) (by simp) (by simp)
  ·rw[if_neg h0,if_neg h1,if_neg h2]at h;obtain⟨e1,_,_⟩:=zDS h;have ha:zA5 p m (n+1) t=zEn (dfn p t.id).kind ((dfn p t.id).slots.map fun s=>zA5 p m n s.typ):=by rw[zA5,if_neg h0,if_neg h1,if_neg h2]
   have e5:=zFr hv h0 h1 h2;have hsl:=hs.dfn t.id;have e3:zDf ((dfn p t.id).slots.map fun s=>jM p m n s.typ)=0:=by
    by_cases hz:zDf ((dfn p t.id).slots.map fun s=>jM p m n s.typ)=0
    ·exact hz
    ·exact absurd e1 (by simp[yQ,hz])
   have e4:∀s∈(dfn p t.id).slots,(jM p m n s.typ).e=0:=fun s hs=>zCm e3 _ (List.mem_map_of_mem hs)
   have e6:∀s∈(dfn p t.id).slots,(zA5 p m n s.typ).length≤4096:=fun s hs=>by have g1:=zBy p m hm n s.typ (e4 s hs);have g2:=zDC p m hm.1 n s.typ (e4 s hs);omega
   rw[ha]at hlen ⊢;obtain⟨k,id,kids⟩:=t;simp only[Typ.k_mk,Typ.id_mk]at h0 h1 h2 hlen hsl e3 e4 e5 e6 ⊢;generalize hD:dfn p id=D at hlen hsl e3 e4 e5 e6 ⊢;rw[dfn]at hD;have hW:(zEn D.kind (D.slots.map fun s=>zA5 p m n s.typ)).length≤4096:=by omega
   have hih:∀s∈D.slots,Ret prog 76 [.agg (zM p),.agg (zS s.typ),int m] [] (.row 0 (zA5 p m n s.typ).length) [.row false 46 3 (zA5 p m n s.typ).length (zJ (zA5 p m n s.typ))]:=fun s hs=>ih s.typ (e4 s hs)
   have hLl:(D.slots.map fun s=>zA5 p m n s.typ).length=D.slots.length:=by simp
   have hLg:∀i (h:i<D.slots.length),(D.slots.map fun s=>zA5 p m n s.typ)[i]?=some (zA5 p m n D.slots[i].typ):=fun i h=>by simp[h]
   generalize (D.slots.map fun s=>zA5 p m n s.typ)=L at hLl hLg hW hlen ⊢;clear hlen h e1 ha hle hv;simp -implicitDefEqProofs [zM,zS,h0,h1,h2];refine qK (zD1 p id) (by simp[zM,zF]) (by simp[zCa]) ?_;simp -implicitDefEqProofs [zCa,hD,zH];intro hl;rcases e5 with e5 | e5
   ·have hsv:zEn D.kind L=zDY L:=by simp[zEn,e5]
    rw[hsv]at hW ⊢;refine jX (S:=Nat) (fun i=>[(2,int m),(3,.ptr 0 0),(7,.ptr 2 0),(12,.ptr 3 0),(14,.row 4 i),(83,.sl D.slots.length (yN D.slots)),(84,int D.slots.length),(85,int i)])
     (fun i=>[.box (zM p),.box (zS (.mk k id kids)),.box [.nil],.box (zH D),.row false 44 1 i (jW (L.take i))])
     (fun i=>i≤D.slots.length) (fun i=>D.slots.length-i) 0 (by simp)
     ((zAS (t:=14) (by simp) 44 1).trans (zP [0,1,2,3,4] 0 (by simp) (by simp) (by simp[zM,zS,zH]) (by simp))) ?_
    intro i hi;by_cases h:i<D.slots.length
    ·have hil:i<L.length:=by omega
     have hl6:=e6 D.slots[i] (jA3 h);have hc:=hih D.slots[i] (jA3 h);have hLi:=hLg i h;rw[jA2 hil]at hLi;rw[←jAz hLi]at hc hl6;simp -implicitDefEqProofs [h,yB h,yJ,zM];refine jN hc [] (by simp) (by simp) (by simp[zM,zS]) ?_;simp -implicitDefEqProofs [zF1];refine⟨⟨by simp[maxLen]; omega,by omega⟩,?_⟩;have htL:jW (L.take (i+1))=jW (L.take i)++[.sl L[i].length (zJ L[i])]:=by rw[jAh hil,zGJ]; rfl
     refine jX (S:=Nat) (fun k=>[(2,int m),(3,.ptr 0 0),(7,.ptr 2 0),(12,.ptr 3 0),(14,.row 4 (i+1)),(15,int i),(83,.sl D.slots.length (yN D.slots)),(84,int D.slots.length),(85,int i),(99,.sl L[i].length (zJ L[i])),(100,int L[i].length),(101,int k)])
      (fun q=>[.box (zM p),.box (zS (.mk k id kids)),.box [.nil],.box (zH D),.row false 44 1 (i+1) (jW (L.take (i+1)))])
      (fun q=>q≤L[i].length) (fun q=>L[i].length-q) 0 (by simp)
      (zP [0,1,2,3,4] 1 (by simp) (by simp) (by simp[zM,zS,zH,htL]) (by simp)) ?_
     intro q hq;by_cases hql:q<L[i].length
     ·have hwq:=zBg q (by omega);simp -implicitDefEqProofs [hql,qY hql,zH,e5,zFT,zF1,hwq];exact zU (q+1) hql (by omega) (zP [0,1,2,3,4] 0 (by simp) (by simp) (by simp[zM,zS,zH,e5]) (by simp[hwq]))
     ·have hqq:q=L[i].length:=by omega
      subst hqq;have hwi:=zBg i (by omega);simp -implicitDefEqProofs;exact zU (i+1) h (by omega) (zP [0,1,2,3,4] 0 (by simp) (by simp) (by simp[zM,zS,zH]) (by simp[hwi]))
    ·have hi:i=D.slots.length:=by omega
     subst hi;have htk:L.take D.slots.length=L:=jAm (by omega);simp -implicitDefEqProofs [htk,e5,zH];refine⟨qC [(7,.ptr 0 0),(14,.sl L.length (jW L))],[.box [.row 1 0],.row false 46 3 0 []],(zBj (l:=2) (o:=0) rfl rfl 46 3).trans (zP [2,5] 1 (by simp) (by simp) (by simp) (by simp[hLl])),?_⟩;simp -implicitDefEqProofs;refine qK (zIX L) (by simp) (by simp) ?_;simp -implicitDefEqProofs;have hWl:(yX L).length=(zDY L).length:=by simp[zDY]
     refine⟨[(7,.ptr 0 0),(123,.clo 154 [] [.rptr [.sl L.length (jW L)]])],2,(yX L).map (fun t=>[zDJ t]),
      fun i=>[.box [.row 1 i],.row false 46 3 i (zJ ((zDY L).take i))],
      154,[],[.rptr [.sl L.length (jW L)]],by simp,zQ4,zS6 _ _ rfl (by omega),zI5 (τ:=[]) (by simp) (by simp) (by simp) (by simp) (by simp),by omega,?_,by simp,by simp,?_,?_⟩
     ·intro i hi;simp
     ·intro i hi b' M r r';simp only[jB4]at hi;have hlx:i≤(zDY L).length:=by omega
      have htk:zJ ((zDY L).take (i+1))=zJ ((zDY L).take i)++zC (.mk 2 0 (yX L)[i]):=by rw[jAh (by omega),zAT];simp[zDY,zC]
      simp -implicitDefEqProofs [zFT,zF1,jAw hlx,(zOw hlx).1,(zOw hlx).2];refine⟨⟨by simp[maxLen]; omega,by omega⟩,by omega,?_⟩;refine⟨qC [],_,?_,rfl⟩;exact zP [0,1,2] 0 (by decide) (by simp) (by simp[htk,zC,Val.k,Val.n,Val.kids]) (by simp)
     ·have htk:(zDY L).take (yX L).length=zDY L:=jAm (by omega);simp -implicitDefEqProofs [htk];exact zI [1] 0 (by simp) (by simp) (by simp[hWl]) (by simp[hWl])
   ·have hsv:zEn D.kind L=jP 0 L:=by simp[zEn,e5]
    rw[hsv]at hW ⊢;refine jX (S:=Nat) (fun i=>[(2,int m),(3,.ptr 0 0),(7,.ptr 2 0),(12,.ptr 3 0),(14,.row 5 i),(83,.sl D.slots.length (yN D.slots)),(84,int D.slots.length),(85,int i)])
     (fun i=>[.box (zM p),.box (zS (.mk k id kids)),.box [.row 4 (jP 0 (L.take i)).length],.box (zH D),.row false 46 3 (jP 0 (L.take i)).length (zJ ((jP 0 L).take (jP 0 (L.take i)).length)),.row false 44 1 i (jW (L.take i))])
     (fun i=>i≤D.slots.length) (fun i=>D.slots.length-i) 0 (by simp)
     (((zBj (l:=2) (o:=0) rfl rfl 46 3).trans (zAS (t:=14) (by simp) 44 1)).trans (zP [0,1,2,3,4,5] 0 (by simp) (by simp) (by simp[zM,zS,zH,jP]) (by simp))) ?_
    intro i hi;by_cases h:i<D.slots.length
    ·have hil:i<L.length:=by omega
     have hl6:=e6 D.slots[i] (jA3 h);have hc:=hih D.slots[i] (jA3 h);have hLi:=hLg i h;rw[jA2 hil]at hLi;rw[←jAz hLi]at hc hl6;simp -implicitDefEqProofs [h,yB h,yJ,zM];refine jN hc [] (by simp) (by simp) (by simp[zM,zS]) ?_;simp -implicitDefEqProofs [zF1];refine⟨⟨by simp[maxLen]; omega,by omega⟩,?_⟩;have hcs:=zO6 hil;have hc1:(jP 0 (L.take (i+1))).length=(jP 0 (L.take i)).length+L[i].length:=by rw[hcs]; simp
     have htL:jW (L.take (i+1))=jW (L.take i)++[.sl L[i].length (zJ L[i])]:=by rw[jAh hil,zGJ]; rfl
     refine jX (S:=Nat) (fun k=>[(2,int m),(3,.ptr 0 0),(7,.ptr 2 0),(12,.ptr 3 0),(14,.row 5 (i+1)),(15,int i),(83,.sl D.slots.length (yN D.slots)),(84,int D.slots.length),(85,int i),(99,.sl L[i].length (zJ L[i])),(100,int L[i].length),(101,int k)])
      (fun q=>[.box (zM p),.box (zS (.mk k id kids)),.box [.row 4 ((jP 0 (L.take i)).length+q)],.box (zH D),.row false 46 3 ((jP 0 (L.take i)).length+q) (zJ ((jP 0 L).take ((jP 0 (L.take i)).length+q))),.row false 44 1 (i+1) (jW (L.take (i+1)))])
      (fun q=>q≤L[i].length) (fun q=>L[i].length-q) 0 (by simp)
      (zP [0,1,2,3,4,5] 1 (by simp) (by simp) (by simp[zM,zS,zH,htL]) (by simp)) ?_
     intro q hq;by_cases hql:q<L[i].length
     ·obtain⟨htk,hle⟩:=zO7 hil hql;have hlx:(jP 0 (L.take i)).length+q≤(jP 0 L).length:=by omega
      have hcast:(((jP 0 (L.take i)).length:Int)+(q:Int)).toNat=(jP 0 (L.take i)).length+q:=by omega
      have hwq:=zBg q (by omega);simp -implicitDefEqProofs [hql,qY hql,zH,e5,zFT,zF1,jAw hlx,(zOw hlx).1,(zOw hlx).2,hcast,hwq];refine⟨⟨by simp[maxLen]; omega,by omega⟩,⟨by omega,by omega⟩,?_⟩;exact zU (q+1) hql (by omega) (zP [0,1,2,3,4,5] 0 (by simp) (by simp) (by simp[zM,zS,zH,e5,htk,zC,Val.k,Val.n,Val.kids,jBi]) (by simp[hwq]))
     ·have hqq:q=L[i].length:=by omega
      subst hqq;have hwi:=zBg i (by omega);simp -implicitDefEqProofs;exact zU (i+1) h (by omega) (zP [0,1,2,3,4,5] 0 (by simp) (by simp) (by simp[zM,zS,zH,hc1]) (by simp[hwi]))
    ·have hi:i=D.slots.length:=by omega
     subst hi;have htk:L.take D.slots.length=L:=jAm (by omega);simp -implicitDefEqProofs [htk,e5,zH];exact zI [4] 0 (by simp) (by simp) (by simp) (by simp)
def zZ2:K:=G [kO 3 0,kO 4 1,kMn 6,kMi 7 0] (Z (G [M 11 2,kBi 12 11 0 .lss,M 13 12,T 13 false (M 14 2),T 13 false (kBi 15 14 64 .gtr),kPt 16 13 15] (Y 16 (G [kMn 6,kMi 7 1] kr) ks)) (Z (G [J 18 3 2,J 19 4 5,M 20 2,kC 21 75 [(kt 18),(kt 19),(kt 20)],M 17 21,kE 22 17 0,kE 23 17 1,kZ 8 [ki,ki],S 8 22 2,M 9 23] (G [M 24 9,kQi 25 24 0 true] (Y 25 (G [M 26 9,kMn 6,M 7 26] kr) ks))) (G [J 27 3 2,J 28 4 5,M 29 2,kC 30 76 [(kt 27),(kt 28),(kt 29)],M 10 30] (G [M 31 10,kC 32 77 [(kt 31),(.func 78)]] (G [M 33 10,M 6 33,kMi 7 0] kr)))))
theorem qGX:zO prog Tryz.f34.ntmps (Tryz.f34.body.getD .skip)=some zZ2.erase:=by kernel_rfl
@[simp] theorem qK6:zA prog 34=true:=by kernel_rfl
def yS (p:Prg)(t:Typ)(m:Int):List Val×Int:=if m<0∨64<m then ([],1) else if (size p m t).e≠0 then ([],(size p m t).e) else (zEb zQD (zA5 p m 24 t),0)
theorem zNj (p:Prg)(hs:Sml p)(t:Typ)(m:Int):Ret prog 34 [.agg (zM p),.agg (zS t),int m] [] (.tup [.sl (yS p t m).1.length (zJ (yS p t m).1),int (yS p t m).2]) []:=by
 refine zK Tryz.func34 rfl qGX (rs:=[.slot 6,.slot 7]) (by kernel_rfl) ?_;unfold zZ2;by_cases h1:m<0
 ·have e:yS p t m=([],1):=by simp[yS,h1]
  simp -implicitDefEqProofs [h1,e];exact zB 1 (by simp)
 by_cases h2:64<m
 ·have e:yS p t m=([],1):=by simp[yS,h2]
  simp -implicitDefEqProofs [h1,h2,e];exact zB 1 (by simp)
 simp -implicitDefEqProofs [h1,h2,zM,zS];refine qK (zRw p hs m (by omega) t) (by simp[zM,zS]) (by simp[szR]) ?_;by_cases h3:(size p m t).e=0
 ·have e:yS p t m=(zEb zQD (zA5 p m 24 t),0):=by simp[yS,h1,h2,h3]
  simp -implicitDefEqProofs [szR,h3,e];refine jN (qBk p hs m (by omega) 24 t h3) [] (by simp) (by simp) (by simp[zM,zS]) ?_;simp -implicitDefEqProofs;have hl:=zDC p m (by omega) 24 t h3;have hle:=zBy p m (by omega) 24 t h3;refine jN (zQd (zA5 p m 24 t) (by omega)) [3] (by simp) (by simp) (by simp) ?_;simp -implicitDefEqProofs;exact zB 1 (by simp[zEb])
 ·have e:yS p t m=([],(size p m t).e):=by simp[yS,h1,h2,h3]
  simp -implicitDefEqProofs [szR,h3,e];exact zB 1 (by simp)
theorem zVx (a b:Val):zBX a b=0↔a=b:=⟨zBS a b,fun h=>by subst h; exact zCk a⟩
def zBB (p:Prg)(a b:List Id)(v:Val)(fuel:Int):Bool:=decide ((zZ p a v fuel).2.2=(zZ p b v fuel).2.2)&&decide (zBX (zZ p b v fuel).1 (zZ p a v fuel).1=0)
def zHC (p:Prg)(all:List (List Id))(v:Val)(fuel:Int):Option (List Id):=all.tail.find? fun q=>!zBB p (all.headD []) q v fuel
def zBD (p:Prg)(all:List (List Id))(fuel:Int):List Val→Option (Val×List Id)
 | []=>none
 | v::l=>match zHC p all v fuel with
  | some q=>some (v,q)
  | none=>zBD p all fuel l
def zEf (p:Prg)(a b:Id)(most fuel:Int):Val×List (List Id)×Int :=
 if zBa p a=true∧zBa p b=true then
  if (yS p (jZ a) most).2≠0 then (vz,[],(yS p (jZ a) most).2)
  else match zBD p (zAd p a b) fuel (yS p (jZ a) most).1 with
   | some x=>(x.1,[(zAd p a b).headD [],x.2],19)
   | none=>(vz,[],0)
 else (vz,[],6)
def zED (r:Val×List (List Id)×Int):A:=.tup [.agg (zC r.1),.sl r.2.1.length (jL r.2.1),int r.2.2]
theorem zOr (p:Prg)(all:List (List Id))(fuel:Int){l:List Val}{i:Nat}(h:i<l.length):zBD p all fuel (l.drop i)=match zHC p all l[i] fuel with
 | some q=>some (l[i],q)
 | none=>zBD p all fuel (l.drop (i+1)):=by
 rw[jAy h]; rfl
def zZn:K:=G [kO 5 0,kO 6 1,kO 7 2,kZ 10 [ki,ki,kl],kMn 11,kMi 12 0] (G [J 26 5 2,J 27 6 3,J 28 7 3,kC 29 20 [(kt 26),(kt 27),(kt 28)],M 25 29,kE 30 25 0,kE 31 25 1,M 13 30,M 14 31] (Z (G [M 32 14,kQi 33 32 0 true] (Y 33 (G [kb 34 [ki,ki,kl] [],M 35 14,S 10 34 3,kMn 11,M 12 35] kr) ks)) (G [J 37 5 2,J 38 6 3,kb 39 kz2 [(0,1,(kc 3)),(1,3,(kt 38))],M 40 3,kC 41 34 [(kt 37),(kt 39),(kt 40)],M 36 41,kE 42 36 0,kE 43 36 1,M 15 42,M 14 43] (Z (G [M 44 14,kQi 45 44 0 true] (Y 45 (G [kb 46 [ki,ki,kl] [],M 47 14,S 10 46 3,kMn 11,M 12 47] kr) ks)) (Z (G [M 48 15,kN 49 48,kMi 50 0] (K.block 0 (K.loop (G [kB 51 50 49 .lss] (Z (Y 51 ks (K.exit 0)) (Z (K.block 1 (G [kX 52 48 50 3,J 53 52 3,kZ 17 [ki,ki,kl],S 17 53 3] (G [kZ 18 [ki,ki,kl]] (G [kMi 19 0] (G [M 54 13,kN 55 54,kMi 56 0] (K.block 2 (K.loop (G [kB 57 56 55 .lss] (Z (Y 57 ks (K.exit 2)) (Z (K.block 3 (G [M 58 56,kX 59 54 56 1,L 60 59 1,M 20 58,M 21 60] (G [J 62 5 2,M 63 21,J 64 17 3,M 65 4,kC 66 45 [(kt 62),(kt 63),(kt 64),(kt 65)],M 61 66,kE 67 61 0,kE 68 61 1,kE 69 61 2,kZ 22 [ki,ki,kl],S 22 67 3,M 23 68,M 24 69] (G [M 70 20,kQi 71 70 0 false] (Y 71 (K.ops [J 72 22 3,M 73 24,S 18 72 3,M 19 73]) (G [M 74 24,M 75 19,kQ 76 74 75 true,M 77 76,T 77 false (J 78 22 3),T 77 false (J 79 18 3),T 77 false (kC 80 60 [(kt 78),(kt 79)]),T 77 false (kQi 81 80 0 true),kPt 82 77 81] (Y 82 (Z (K.dops [(0,0,J 83 17 3),(1,0,M 84 13),(2,2,kXi 85 84 1 0),(3,2,L 86 85 1),(4,0,M 87 21),(5,0,kd 88 28 1 2 [kl,kl] [(0,1,(kt 86)),(1,1,(kt 87))]),(6,0,
 S 10 83 3),(7,0,M 11 88),(8,0,kMi 12 19)]) kr) ks))))))) (K.ops [kBi 89 56 1 .add,M 56 89]))))))))))) (K.ops [kBi 90 50 1 .add,M 50 90]))))))) (G [kb 91 [ki,ki,kl] [],S 10 91 3,kMn 11,kMi 12 0] kr))))))
def qId:Nat→Option (List (Nat×Nat)):=fun r=>match r with | 19=>some [(0,0),(1,0),(2,2),(3,2),(4,0),(5,0),(6,0),(7,0),(8,0)] | _=>none
theorem qGH:qF prog Tryz.f26.ntmps qId (Tryz.f26.body.getD .skip)=some zZn.erase:=by kernel_rfl
@[simp] theorem qKt:zA prog 26=true:=by kernel_rfl
theorem zOs {p:Prg}{hs:List Hd}(hf:Fit p hs)(hsm:Sml p)(a b:Id)(h64:(zAd p a b).length≤64)(hql:∀q∈zAd p a b,q.length≤1000000)(most fuel:Int)(h0 : -90000≤fuel)(h1:fuel≤90000)
 (hv:∀v∈(yS p (jZ a) most).1,qD v≤256∧zAs v≤24) :
 Ret prog 26 [.agg (zM p),.agg (zF a),.agg (zF b),int most,int fuel] [] (zED (zEf p a b most fuel)) []:=by
 have hP:=eP p;have hpa:=zHz hf a b h64;refine qS Tryz.func26 rfl qGH (rs:=[.cell 10 3 true,.slot 11,.slot 12]) (by kernel_rfl) ?_;unfold zZn;simp -implicitDefEqProofs [hP,zF];refine qK hpa (by simp[hP,zF]) (by unfold zCW; split<;>simp) ?_;by_cases hst:zBa p a=true∧zBa p b=true
 ·have hpr:zCW p a b=.tup [.sl (zAd p a b).length (jL (zAd p a b)),int 0]:=by unfold zCW; rw[if_pos hst]
  rw[hpr];have hval:=zNj p hsm (jZ a) most;simp -implicitDefEqProofs;refine qK hval (by simp[hP,zF,zS,jZ,Typ.k,Typ.id,Typ.kids]) (by simp) ?_;by_cases he:(yS p (jZ a) most).2=0
  ·have hres:zEf p a b most fuel=match zBD p (zAd p a b) fuel (yS p (jZ a) most).1 with
    | some x=>(x.1,[(zAd p a b).headD [],x.2],19)
    | none=>(vz,[],0):=by
    unfold zEf; rw[if_pos hst,if_neg (by simp[he])]
   rw[hres,he];generalize (yS p (jZ a) most).1=L at *
   generalize zAd p a b=all at *
   obtain⟨q0,hq0⟩:∃q0,q0=all.headD []:=⟨_,rfl⟩;have hdf:∀v,zHC p all v fuel=all.tail.find? fun q=>!zBB p q0 q v fuel:=fun v=>by rw[hq0]; rfl
   rw[←hq0];rw[←hq0]at hres;have hvz:zC vz=[int 0,int 0,.sl 0 []]:=by simp[zC,vz,Val.k,Val.n,Val.kids]
   simp -implicitDefEqProofs;intro hmx;refine jX (S:=Nat) (fun i=>[(4,int fuel),(5,.ptr 0 0),(10,.ptr 1 0),(13,.sl all.length (jL all)),(48,.sl L.length (zJ L)),(49,int L.length),(50,int i)]) (fun i=>[.box (zM p),.box (zC vz)])
    (fun i=>i≤L.length∧zBD p all fuel L=zBD p all fuel (L.drop i)) (fun i=>L.length-i) 0 ⟨by omega,by simp⟩
    (zP [0,3] 0 (by simp) (by decide) (by simp[hP,hvz]) (by simp)) ?_
   rintro i ⟨hi,hag⟩;by_cases h:i<L.length
   ·have hw:=qO h hmx;have hdr:=zOr p all fuel h;have hvi:=hv L[i] (jA3 h);have hcd:=qY h;have hLne:¬L=[]:=fun e=>by rw[e]at h; simp at h
    generalize L[i]=v at hdr hvi hcd;simp -implicitDefEqProofs [h,hP,hvz,hcd,hLne];intro hma;refine jX (S:=Nat) (fun k=>[(4,int fuel),(5,.ptr 0 0),(10,.ptr 1 0),(13,.sl all.length (jL all)),(48,.sl L.length (zJ L)),(49,int L.length),(50,int i),(17,.ptr 2 0),(18,.ptr 3 0),(19,int (if k=0 then 0 else (zZ p q0 v fuel).2.2)),(54,.sl all.length (jL all)),(55,int all.length),(56,int k)])
     (fun k=>[.box (zM p),.box (zC vz),.box (zC v),.box (zC (if k=0 then vz else (zZ p q0 v fuel).1))])
     (fun k=>k≤all.length∧∀j,0<j→j<k→zBB p q0 (all.getD j []) v fuel=true) (fun k=>all.length-k) 0 ⟨by omega,fun j _ hj=>by omega⟩
     (zP [0,1,2,3] 0 (by simp) (by decide) (by simp[hP,zC,vz,Val.k,Val.n,Val.kids]) (by simp)) ?_
    rintro k ⟨hk,hsame⟩;by_cases hk2:k<all.length
    ·have hfo:=zMt hf all[k] (hql _ (jA3 hk2)) v hvi fuel h0 h1;have hwk:=qO hk2 hma;have hpd:=zBR hk2;have hane:¬all=[]:=fun e=>by rw[e]at hk2; simp at hk2
     have hgd:all.getD k []=all[k]:=by rw[jBm,jA2 hk2]; rfl
     unfold zCU at hfo;have hgd2:all[k]?.getD []=all[k]:=by rw[jA2 hk2]; rfl
     by_cases hk0:k=0
     ·subst hk0;have hhd:q0=all[0]:=by rw[hq0]; exact by cases all with | nil=>simp at hk2 | cons x l=>rfl
      rw[hhd];simp -implicitDefEqProofs [hP,hvz,hk2,hpd,hane,zC];refine qK hfo (by simp[hP,zC]) (by simp[zC]) ?_;simp -implicitDefEqProofs [zC];exact zU 1 ⟨hk2,fun j hj0 hj1=>by omega⟩ (by omega) (zP [0,1,2,3] 0 (by simp) (by decide) (by simp[hP,zC,vz,Val.k,Val.n,Val.kids,hhd]) (by simp[hhd,show IntKind.i64.wrap 1=1 from rfl]))
     ·have hk0':¬(k:Int)=0:=by omega
      simp -implicitDefEqProofs [hP,hvz,hk2,hpd,hane,zC,hk0,hk0'];refine qK hfo (by simp[hP,zC]) (by simp[zC]) ?_;simp -implicitDefEqProofs [zC,hk0,hk0'];have hse:zBB p q0 all[k] v fuel=(decide ((zZ p q0 v fuel).2.2=(zZ p all[k] v fuel).2.2)&&decide (zBX (zZ p all[k] v fuel).1 (zZ p q0 v fuel).1=0)):=rfl;have hcm:=zJQ (zZ p all[k] v fuel).1 (zZ p q0 v fuel).1;have hdiff:zBB p q0 all[k] v fuel=false→zBD p all fuel L=some (v,all[k]):=fun hs=>by
       have hd:zHC p all v fuel=some all[k]:=by
        rw[hdf,List.find?_eq_some_iff_getElem];refine⟨by simp[hs],k-1,by simp; omega,?_,fun j hj=>?_⟩
        ·simp only[List.getElem_tail]
         congr 1; omega
        ·have:=hsame (j+1) (by omega) (by omega);rw[jBm,jA2 (by omega),jBe]at this;simp only[List.getElem_tail];simp[this]
       rw[hag,hdr,hd]
      have hh0:0<all.length:=by omega
      have hpd0:=zBR hh0;have hhd:q0=all[0]:=by rw[hq0]; cases all with | nil=>simp at hk2 | cons x l=>rfl
      rw[List.drop_zero]at hpd0;generalize hx0:(zZ p q0 v fuel).1=x0 at *
      generalize he0:(zZ p q0 v fuel).2.2=e0 at *
      generalize hxk:(zZ p all[k] v fuel).1=xk at *
      generalize hek:(zZ p all[k] v fuel).2.2=ek at *
      by_cases hee:ek=e0
      ·by_cases hcc:zBX xk x0=0
       ·have hs:zBB p q0 all[k] v fuel=true:=by rw[hse]; simp[hee,hcc]
        simp -implicitDefEqProofs [hee];refine qK hcm (by simp[zC]) (by simp) ?_;simp -implicitDefEqProofs [hcc];exact zU (k+1) ⟨hk2,fun j hj0 hj1=>by
         by_cases e:j=k
         ·subst e; first | (rw[hgd]; exact hs) | (rw[hgd2]; exact hs)
         ·exact hsame j hj0 (by omega)⟩ (by omega) (zP [0,1,2,3] 0 (by simp) (by decide) (by simp[hP,zC,vz,Val.k,Val.n,Val.kids,hk0,hx0,hvz]) (by simp[hk0,hwk,he0]))
       ·have hs:=hdiff (by rw[hse]; simp[hcc]);rw[hs];simp -implicitDefEqProofs [hee];refine qK hcm (by simp[zC]) (by simp) ?_;simp -implicitDefEqProofs [hcc,hane,hh0,hpd0];exact zB 0 (by simp[zED,zC,zCs,hhd])
      ·have hs:=hdiff (by rw[hse]; simp[Ne.symm hee]);rw[hs];simp -implicitDefEqProofs [hee,hane,hh0,hpd0];exact zB 0 (by simp[zED,zC,zCs,hhd])
    ·have hke:k=all.length:=by omega
     subst hke;have hd:zHC p all v fuel=none:=by
      rw[hdf,List.find?_eq_none];intro q hq;obtain⟨j,hj,rfl⟩:=jB0 hq;have hj2:j+1<all.length:=by simp at hj; omega
      have:=hsame (j+1) (by omega) hj2;rw[jBm,jA2 hj2,jBe]at this;simp only[List.getElem_tail];simp[this]
     rw[hd]at hdr;simp -implicitDefEqProofs [hP,hvz];exact zU (i+1) ⟨h,by rw[hag,hdr]⟩ (by omega) (zP [0,1] 0 (by simp) (by decide) (by simp[hP,hvz]) (by simp[hw]))
   ·have hie:i=L.length:=by omega
    subst hie;rw[List.drop_length]at hag;simp only[zBD]at hag;rw[hag];simp -implicitDefEqProofs [hP,hvz];exact zB 0 (by simp[zED,hvz])
  ·have hres:zEf p a b most fuel=(vz,[],(yS p (jZ a) most).2):=by unfold zEf; rw[if_pos hst,if_pos he]
   rw[hres];simp -implicitDefEqProofs [he];exact zB 0 (by simp[zED,zC,vz,Val.k,Val.n,Val.kids])
 ·have hpr:zCW p a b=.tup [.sl 0 [],int 6]:=by unfold zCW; rw[if_neg hst]
  have hres:zEf p a b most fuel=(vz,[],6):=by unfold zEf; rw[if_neg hst]
  rw[hpr,hres];simp -implicitDefEqProofs;exact zB 0 (by simp[zED,zC,vz,Val.k,Val.n,Val.kids])
inductive OneOf:List Val→List (List Val)→Prop
 | nil:OneOf [] []
 | cons {v:Val} {x:List Val} {t:List Val} {l:List (List Val)} (h:v∈x) (ht:OneOf t l):OneOf (v::t) (x::l)
theorem zOY:∀(l acc:List (List Val)) (t:List Val),t∈l.foldl zBW acc→∃h∈acc,∃s,t=h++s∧OneOf s l
 | [],acc,t,ht=>⟨t,ht,[],by simp,.nil⟩
 | a::l,acc,t,ht=>by obtain⟨h,hh,s,rfl,hs⟩:=zOY l (zBW acc a) t ht;simp only[zBW,List.mem_flatMap,jAg]at hh;obtain⟨g,hg,x,hx,rfl⟩:=hh;exact⟨g,hg,x::s,by simp,.cons hx hs⟩
theorem zId {l:List (List Val)}{t:List Val}(h:t∈yX l):OneOf t l:=by obtain⟨g,hg,s,rfl,hs⟩:=zOY l [[]] t h;simp at hg; subst hg; simpa using hs
inductive BndB (N:Nat):List Sz→List (List Val)→Prop
 | nil:BndB N [] []
 | cons {k:Sz} {x:List Val} {z:List Sz} {l:List (List Val)} (h:∀v∈x,(qD v:Int)≤k.b∧zAs v≤N) (h0:0≤k.b) (hz:BndB N z l):BndB N (k::z) (x::l)
def zLN:List Sz→Int
 | []=>0
 | k::z=>k.b+zLN z
theorem zNN {N:Nat}:∀{z:List Sz} {l:List (List Val)} {t:List Val},BndB N z l→OneOf t l→(jG t:Int)≤zLN z∧yT t≤N
 | _,_,_,.nil,.nil=>by simp[jG,yT,zLN]
 | _,_,_,.cons h _ hz,.cons hv ht=>by have h1:=zNN hz ht;have h2:=h _ hv;simp only[jG,yT,zLN];omega
theorem zWF:∀(z:List Sz) (a b:Int),(zDm a b z).e=0→(zDm a b z).b=b+zLN z
 | [],a,b,_=>by simp[zDm,zLN]
 | k::z,a,b,h=>by
  simp only[zDm]at h⊢;split at h
  ·simp at h
  ·rename_i hn;rw[if_neg hn,zWF z _ _ h];simp only[zLN]; omega
theorem zSj:∀(z:List Sz) (a b:Int),b≤(zC9 a b z).b∧∀k∈z,1+k.b≤(zC9 a b z).b
 | [],a,b=>by simp[zC9]
 | k::z,a,b=>by
  have:=zSj z (a+k.a) (max b (1+k.b));simp only[zC9];refine⟨by omega,fun x hx=>?_⟩;rcases jA6.1 hx with rfl | hx
  ·omega
  ·exact this.2 x hx
theorem zLZ {N:Nat}:∀{z:List Sz} {l:List (List Val)} (i:Int),BndB N z l→∀v∈jP i l,∃k∈z,(qD v:Int)≤1+k.b∧zAs v≤N+1
 | _,_,i,.nil,v,h=>by simp[jP]at h
 | _,_,i,.cons (k:=k) h h0 hz,v,hv=>by
  simp only[jP,jAj,jAg]at hv;rcases hv with ⟨x,hx,rfl⟩ | hv
  ·have:=h x hx;refine⟨k,by simp,?_⟩;have e1:qD (.mk 3 i [x])=1+jG [x]:=zC3 _;have e2:zAs (.mk 3 i [x])=yT [x]+1:=zCl _;have e3:jG [x]=qD x+0:=by simp only[jG]
   have e4:yT [x]=max (zAs x) 0:=by simp only[yT]
   rw[e1,e2,e3,e4];omega
  ·obtain⟨k',hk',h'⟩:=zLZ (i+1) hz v hv;exact⟨k',by simp[hk'],h'⟩
theorem zSi {N:Nat}{k:Sz}{x:List Val}(h:∀v∈x,(qD v:Int)≤k.b∧zAs v≤N)(h0:0≤k.b):∀j,BndB N (List.replicate j k) (List.replicate j x)∧zLN (List.replicate j k)=j*k.b
 | 0=>⟨.nil,by simp[zLN]⟩
 | j+1=>by
  have:=zSi h h0 j;refine⟨.cons h h0 this.1,?_⟩;simp only[List.replicate_succ,zLN,this.2];have:((j+1:Nat):Int)*k.b=j*k.b+k.b:=by rw[Int.natCast_add,Int.add_mul]; simp
  omega
theorem zSw {k:Sz}(h:(zBv k).e=0)(ha:(zBv k).a≠0):(zBv k).b=k.b:=by
 unfold zBv at *
 split at h
 ·rename_i h1; simp at h; exact(h1 h).elim
 ·split at h
  ·simp at h
  ·rename_i h1 h2;rw[if_neg h1,if_neg h2]at ha ⊢;simp only at ha ⊢;rw[if_neg ha]
theorem zLU {p:Prg}{m:Int}{n:Nat}(hm:0≤m∧m≤64)(ih:∀t,(jM p m n t).e=0→∀v∈zA5 p m n t,(qD v:Int)≤(jM p m n t).b∧zAs v≤n):∀l:List Slt,(∀s∈l,(jM p m n s.typ).e=0) →
 BndB n (l.map fun s=>jM p m n s.typ) (l.map fun s=>zA5 p m n s.typ)
 | [],_=>.nil
 | s::l,h=>.cons (ih _ (h s (by simp))) ((zBy p m hm n s.typ) (h s (by simp))).2.2.1 (zLU hm ih l fun x hx=>h x (by simp[hx]))
theorem zJY (p:Prg)(m:Int)(hm:0≤m∧m≤64):∀(n:Nat) (t:Typ),(jM p m n t).e=0→∀v∈zA5 p m n t,(qD v:Int)≤(jM p m n t).b∧zAs v≤n
 | 0,t,_,v,hv=>by simp[zA5]at hv
 | n+1,t,h,v,hv=>by
  have ih:=zJY p m hm n;have hlen:=zDC p m hm.1 (n+1) t h;have hpos:0<(zA5 p m (n+1) t).length:=List.length_pos_of_mem hv;have ha:(jM p m (n+1) t).a≠0:=by omega
  clear hlen hpos;unfold jM at h ha ⊢;unfold zA5 at hv;by_cases hvt:validT p t=false
  ·rw[if_pos hvt]at h; simp at h
  ·rw[if_neg hvt]at h ha ⊢;by_cases h0:t.k=0
   ·rw[if_pos h0]at hv ⊢;simp only[zCR,jAg]at hv;obtain⟨i,_,rfl⟩:=hv;simp[zC3,zCl,Val.kids,jG,yT]
   ·rw[if_neg h0]at h ha hv ⊢;by_cases h1:t.k=1
    ·rw[if_pos h1]at hv ⊢;simp only[jA6,jCx,or_false]at hv;rcases hv with rfl | rfl<;>simp[zC3,zCl,Val.kids,jG,yT]
    ·rw[if_neg h1]at h ha hv ⊢;by_cases h2:t.k=2
     ·rw[if_pos h2]at h ha hv ⊢;rw[zSw h ha];have hfe:=zDS h;have ih2:=ih (t.kids.headD Typ.zero);have hok:=zBy p m hm n (t.kids.headD Typ.zero);generalize jM p m n (t.kids.headD Typ.zero)=kz at *
      generalize zA5 p m n (t.kids.headD Typ.zero)=X at *
      have hle:=hfe.1;have hke:kz.e=0:=by
       unfold zBf at hle;split at hle
       ·rename_i hh; simpa using hle
       ·rename_i hh; simpa using hh
      obtain⟨_,_,b0,b1⟩:=hok hke;simp only[zKP,List.mem_flatMap,jAg,jC7]at hv;obtain⟨j,hj,tt,htt,rfl⟩:=hv;have hr:=zSi (N:=n) (fun v hv=>ih2 hke v hv) b0 j;have ho:=zNN hr.1 (zId htt);rw[hr.2]at ho;have hj2:j=0∨(j=1∧1≤m)∨(j=2∧2≤m):=by split at hj<;>omega
      simp only[zC3,zCl,Val.kids];unfold zBf;rw[if_neg (by simp[hke])];refine⟨?_,by omega⟩;rcases hj2 with rfl | ⟨rfl,hj2⟩ | ⟨rfl,hj2⟩
      ·split
       ·simp only; omega
       ·split<;>simp only<;>omega
      ·rw[if_neg (by omega)];split<;>simp only<;>omega
      ·rw[if_neg (by omega),if_neg (by omega)];simp only; omega
     ·rw[if_neg h2]at h ha hv ⊢;rw[zSw h ha];have e1:=(zDS h).1;have e3:zDf ((dfn p t.id).slots.map fun s=>jM p m n s.typ)=0:=by
       by_cases hz:zDf ((dfn p t.id).slots.map fun s=>jM p m n s.typ)=0
       ·exact hz
       ·exact absurd e1 (by simp[yQ,hz])
      have hb:=zLU hm ih (dfn p t.id).slots (fun s hs=>zCm e3 _ (jAg.2 ⟨s,hs,rfl⟩));have hvt2:validT p t=true:=by simpa using hvt
      have e5:=zFr hvt2 h0 h1 h2;unfold zEn at hv;rcases e5 with e5 | e5
      ·rw[if_pos e5]at hv;have ee:yQ (decide ((dfn p t.id).kind=0)) ((dfn p t.id).slots.map fun s=>jM p m n s.typ)=zDm 1 1 ((dfn p t.id).slots.map fun s=>jM p m n s.typ):=by simp[yQ,e3,e5]
       rw[ee]at e1 ⊢;rw[zWF _ _ _ e1];simp only[zDY,jAg]at hv;obtain⟨tt,htt,rfl⟩:=hv;have ho:=zNN hb (zId htt);simp only[zC3,zCl,Val.kids];omega
      ·rw[if_neg (by omega),if_pos e5]at hv;have ee:yQ (decide ((dfn p t.id).kind=0)) ((dfn p t.id).slots.map fun s=>jM p m n s.typ)=zC9 0 1 ((dfn p t.id).slots.map fun s=>jM p m n s.typ):=by simp[yQ,e3,e5]
       rw[ee];obtain⟨k,hk,h3,h4⟩:=zLZ 0 hb v hv;have:=(zSj ((dfn p t.id).slots.map fun s=>jM p m n s.typ) 0 1).2 k hk;omega
theorem zIr (p:Prg)(t:Typ)(m:Int):∀v∈(yS p t m).1,qD v≤256∧zAs v≤24:=by
 intro v hv;unfold yS at hv;split at hv
 ·simp at hv
 ·rename_i hm;split at hv
  ·simp at hv
  ·rename_i he;have he':(size p m t).e=0:=by simpa using he
   simp only at hv;have hv2:v∈zA5 p m 24 t:=(List.mergeSort_perm _ _).mem_iff.1 hv;have:=zJY p m (by omega) 24 t he' v hv2;have hb:=(zBy p m (by omega) 24 t he').2.2.2;omega
def iD (n:Int):Id:=⟨0,1,n⟩
def exF (at_ place rec slot:Int):Exp:=.mk (iD at_) 8 place (iD rec) .zero [.mk (iD (at_+1)) 2 0 (iD slot) .zero [] []] []
def exS (i:Int)(nm:ByteArray)(pl:Int):Slt:=⟨iD i,nm,.zero,0,pl⟩
def qAm:Exp:=.mk (iD 20) 7 0 (iD 11) .zero [exF 21 0 10 4,.mk (iD 23) 0 0 .zero .zero [] []] []
def qAo:Exp:=.mk (iD 24) 4 0 .zero .zero [exF 25 0 11 5,exF 27 1 11 5] []
def qAn:Exp:=.mk (iD 29) 4 2 .zero .zero [exF 30 0 10 6,exF 16 0 10 6] []
def zN0 (i:Int)(nm:ByteArray)(s:Int)(a b:Int)(e:Exp):Dfn:=⟨iD i,5,iD 0,nm,[⟨iD s,⟨#[97]⟩,jZ (iD a),0,0⟩],jZ (iD b),e,0,[]⟩
def zJF (i:Int)(nm:ByteArray)(ss:List Slt):Dfn:=⟨iD i,0,iD 0,nm,ss,.zero,.zero,0,[]⟩
def zAj:Prg:=⟨[⟨iD 0,⟨#[109]⟩,[],[iD 1,iD 2,iD 3,iD 10,iD 11,iD 12]⟩],
 [zN0 1 ⟨#[112]⟩ 4 10 11 qAm,zN0 2 ⟨#[113]⟩ 5 11 12 (.mk (iD 18) 7 0 (iD 12) .zero [qAo] []),zN0 3 ⟨#[114]⟩ 6 10 12 (.mk (iD 19) 7 0 (iD 12) .zero [qAn] []),
  zJF 10 ⟨#[65]⟩ [exS 7 ⟨#[120]⟩ 0],zJF 11 ⟨#[66]⟩ [exS 8 ⟨#[120]⟩ 0,exS 9 ⟨#[121]⟩ 1],zJF 12 ⟨#[67]⟩ [exS 13 ⟨#[120]⟩ 0]]⟩
def zF2 (n:Int):Val:=.mk 2 0 [.mk 0 n []]
theorem zK5 {rec slot:Int}{at_:Int}{j:Nat}(d:Dfn)(hd:qW zAj.defs (iD rec)=some d)(hk:d.kind=0)(hj:j<d.slots.length)(ht:d.slots[j].typ=zAW):WE zAj [⟨iD slot,0,jZ (iD rec)⟩] (exF at_ j rec slot) zAW:=by have:=WE.field (p:=zAj) [⟨iD slot,0,jZ (iD rec)⟩] (iD at_) (iD rec) .zero (.mk (iD (at_+1)) 2 0 (iD slot) .zero [] []) [] d j hd hk hj (.var _ _ _ _ _ _ _ (by simp[zE0]));rw[ht]at this;exact this
def zSt:Dfn:=zJF 10 ⟨#[65]⟩ [exS 7 ⟨#[120]⟩ 0]
def zSu:Dfn:=zJF 11 ⟨#[66]⟩ [exS 8 ⟨#[120]⟩ 0,exS 9 ⟨#[121]⟩ 1]
def zVQ:Dfn:=zJF 12 ⟨#[67]⟩ [exS 13 ⟨#[120]⟩ 0]
theorem qCc:qW zAj.defs (iD 10)=some zSt:=by rfl
theorem qCd:qW zAj.defs (iD 11)=some zSu:=by rfl
theorem qHW:qW zAj.defs (iD 12)=some zVQ:=by rfl
theorem zQM {k:Nat}{n:Int}(h:k<(zAj.defs.map Dfn.hd).length)(hid:(zAj.defs.map Dfn.hd)[k].id=iD n)(h1:∀(j:Nat)(hj:j<k),(zAj.defs.map Dfn.hd)[j].id≠(zAj.defs.map Dfn.hd)[k].id)
 (h2:(zAj.defs.map Dfn.hd)[k].kind=0)(h3:(zAj.defs.map Dfn.hd)[k].slots.length≤6)(h4:∀s∈(zAj.defs.map Dfn.hd)[k].slots,s.typ=zAW):TyOk (zAj.defs.map Dfn.hd) 4 (jZ (iD n)):=by
 rw[←hid];exact .dfn 3 k h h1 (.inl h2) h3 fun s hs=>by rw[h4 s hs]; exact .int _
theorem zHH:Fit zAj (zAj.defs.map Dfn.hd):=by
 have t10:TyOk (zAj.defs.map Dfn.hd) 4 (jZ (iD 10)):=zQM (k:=3) (by decide) rfl (by decide) rfl (by decide) (by intro s hs; simp[zAj,zJF,zN0,exS,Dfn.hd]at hs; subst hs; rfl);have t11:TyOk (zAj.defs.map Dfn.hd) 4 (jZ (iD 11)):=zQM (k:=4) (by decide) rfl (by decide) rfl (by decide) (by intro s hs; simp[zAj,zJF,zN0,exS,Dfn.hd]at hs; rcases hs with rfl | rfl<;>rfl);have t12:TyOk (zAj.defs.map Dfn.hd) 4 (jZ (iD 12)):=zQM (k:=5) (by decide) rfl (by decide) rfl (by decide) (by intro s hs; simp[zAj,zJF,zN0,exS,Dfn.hd]at hs; subst hs; rfl);refine⟨rfl,by decide,by decide,?_,by decide,?_⟩
 ·intro d hd;simp only[zAj,jA6,jCx,or_false]at hd;rcases hd with rfl | rfl | rfl | rfl | rfl | rfl
  ·exact⟨by decide,by decide,by decide,by decide,fun s hs=>by simp[zN0]at hs; subst hs; exact t10⟩
  ·exact⟨by decide,by decide,by decide,by decide,fun s hs=>by simp[zN0]at hs; subst hs; exact t11⟩
  ·exact⟨by decide,by decide,by decide,by decide,fun s hs=>by simp[zN0]at hs; subst hs; exact t10⟩
  ·exact⟨by decide,by decide,by decide,by decide,fun s hs=>by simp[zJF,exS]at hs; subst hs; exact .int _⟩
  ·exact⟨by decide,by decide,by decide,by decide,fun s hs=>by simp[zJF,exS]at hs; rcases hs with rfl | rfl<;>exact .int _⟩
  ·exact⟨by decide,by decide,by decide,by decide,fun s hs=>by simp[zJF,exS]at hs; subst hs; exact .int _⟩
 ·intro r d hd hb;have hm:=(zAu hd).1;simp only[zAj,jA6,jCx,or_false]at hm;rcases hm with rfl | rfl | rfl | rfl | rfl | rfl
  ·show WE zAj [⟨iD 4,0,jZ (iD 10)⟩] qAm (jZ (iD 11));refine .record _ _ _ _ _ _ _ (by decide) zSu qCd rfl rfl fun j hj=>?_
   have:j=0∨j=1:=by simp at hj; omega
   rcases this with rfl | rfl
   ·exact zK5 (j:=0) zSt qCc rfl (by decide) rfl
   ·exact .int _ _ _ _ _ _ (by decide) (by decide)
  ·show WE zAj [⟨iD 5,0,jZ (iD 11)⟩] (.mk (iD 18) 7 0 (iD 12) .zero [qAo] []) (jZ (iD 12));refine .record _ _ _ _ _ _ _ (by decide) zVQ qHW rfl rfl fun j hj=>?_
   have:j=0:=by simp at hj; omega
   subst this;refine .op _ _ _ _ _ _ _ (by decide) [zAW,zAW] zAW (.arith _ (by decide) (by decide)) rfl fun j hj=>?_
   have:j=0∨j=1:=by simp at hj; omega
   rcases this with rfl | rfl
   ·exact zK5 (j:=0) zSu qCd rfl (by decide) rfl
   ·exact zK5 (j:=1) zSu qCd rfl (by decide) rfl
  ·show WE zAj [⟨iD 6,0,jZ (iD 10)⟩] (.mk (iD 19) 7 0 (iD 12) .zero [qAn] []) (jZ (iD 12));refine .record _ _ _ _ _ _ _ (by decide) zVQ qHW rfl rfl fun j hj=>?_
   have:j=0:=by simp at hj; omega
   subst this;refine .op _ _ _ _ _ _ _ (by decide) [zAW,zAW] zAW (.arith _ (by decide) (by decide)) rfl fun j hj=>?_
   have:j=0∨j=1:=by simp at hj; omega
   rcases this with rfl | rfl
   ·exact zK5 (j:=0) zSt qCc rfl (by decide) rfl
   ·exact zK5 (j:=0) zSt qCc rfl (by decide) rfl
  all_goals exact absurd hb (by decide)
end Go.Proofs.YtdnelmeboihpkaaGreatDoor
