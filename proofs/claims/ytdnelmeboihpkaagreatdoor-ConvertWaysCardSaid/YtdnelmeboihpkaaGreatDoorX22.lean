/-
  domain.all: the values of a type up to a bound.
  domain.Values.
  convert.Agree.
  The values of a domain are small.
  The example of the law on converters.
  The example of the law on converters, walked.
-/
import Derived.Test.YtdnelmeboihpkaaGreatDoorX21
import Derived.Test.YtdnelmeboihpkaaGreatDoorX20
import Derived.Test.YtdnelmeboihpkaaGreatDoorX18
import Derived.Test.YtdnelmeboihpkaaGreatDoorX13
import Derived.Test.YtdnelmeboihpkaaGreatDoorX19
import Derived.Test.YtdnelmeboihpkaaGreatDoorX17
import Derived.Test.YtdnelmeboihpkaaGreatDoorX14
set_option linter.unusedVariables false
set_option maxHeartbeats 8000000
set_option maxRecDepth 100000
set_option linter.unusedSimpArgs false
open Go.Proofs.Tryz (prog)
namespace Go.Proofs.YtdnelmeboihpkaaGreatDoor
open Go.Abs
def qEC:K:=G [kO 3 0,kO 4 1,kMn 6] (G [kZ 7 [kl]] (Z (G [D 21 4 0,L 22 21 1] (K.block 0 (G [kQi 24 22 0 false,M 23 24] (Y 23 (Z (G [M 25 2,⟨none,.neg (some 26) (kt 25)⟩,M 8 26] (K.block 1 (K.loop (Z (G [M 27 8,M 28 2,kB 29 27 28 .leq] (Y 29 ks (K.exit 1))) (Z (K.block 2 (K.dops [(0,0,L 32 7 1),(1,0,M 33 8),(2,0,kb 34 [ki,ki,kl] [(0,1,(kc 0)),(1,1,(kt 33))]),(3,0,kN 35 32),(4,0,kd 36 46 3 1 [ki,ki,kl] [(0,3,(.const (.agg #[ki,ki,kl])))]),(5,0,kP 37 46 3 40 32 36),(6,6,kX 38 37 35 3),(7,6,S 38 34 3),(8,5,S 7 37 1)])) (K.ops [M 30 8,kBi 31 30 1 .add,M 8 31])))))) (G [L 39 7 1,M 6 39] kr)) (G [kQi 41 22 1 false,M 40 41] (Y 40 (G [kb 42 [ki,ki,kl] [(0,1,(kc 1))],kb 43 [ki,ki,kl] [(0,1,(kc 1)),(1,1,(kc 1))],⟨none,.brow (some 44) 46 3 2 [ki,ki,kl,ki,ki,kl] [(0,3,(kt 42)),(3,3,(kt 43))]⟩,M 6 44] kr) (G [kQi 46 22 2 false,M 45 46] (Y 45 (Z (K.dops [(0,1,J 47 3 2),(1,1,D 48 4 4),(2,1,L 49 48 1),(3,1,kXi 50 49 5 0),(4,1,J 51 50 5),(5,0,M 52 2),(6,3,kC 53 76 [(kt 47),(kt 51),(kt 52)]),(7,0,M 9 53)]) (Z (G [M 54 2,⟨none,.mm (some 55) false [(kt 54),(kc 2)]⟩,kBi 56 55 1 .add,kMi 57 0] (K.block 3 (K.loop (G [kB 58 57 56 .lss] (Z (Y 58 ks (K.exit 3)) (Z (K.block 4 (G [M 59 57,M 10 59] (G [M 60 9,kd 61 44 1 1 [kl] [(0,1,(kt 60))],M 62 10,kC 63 119 [(kt 61),(kt 62)],kC 64 118 [(kt 63)]] (K.block 5 (K.rng (kt 64) [65] (K.ops [M 11 65]) (K.block 6 (K.dops [(0,0,L 66 7 1),(1,0,
 M 67 11),(2,0,kb 68 [ki,ki,kl] [(0,1,(kc 4)),(2,1,(kt 67))]),(3,0,kN 69 66),(4,0,kd 70 46 3 1 [ki,ki,kl] [(0,3,(.const (.agg #[ki,ki,kl])))]),(5,0,kP 71 46 3 40 66 70),(6,6,kX 72 71 69 3),(7,6,S 72 68 3),(8,5,S 7 71 1)]))))))) (K.ops [kBi 73 57 1 .add,M 57 73]))))))) (G [L 74 7 1,M 6 74] kr))) ks)))))))) (G [J 76 3 2,D 77 4 1,J 78 77 3,kC 79 96 [(kt 76),(kt 78)],M 75 79,kE 80 75 0,kE 81 75 1,kZ 12 kz0,S 12 80 31,M 13 81] (G [kMn 14] (Z (G [D 82 12 8,L 83 82 1,kN 84 83,kMi 85 0] (K.block 7 (K.loop (G [kB 86 85 84 .lss] (Z (Y 86 ks (K.exit 7)) (Z (K.block 8 (G [M 87 85,kX 88 83 85 11,J 89 88 11,kZ 16 kz5,M 15 87,S 16 89 11] (G [J 90 3 2,D 91 16 4,J 92 91 5,M 93 2,kC 94 76 [(kt 90),(kt 92),(kt 93)],M 17 94] (G [M 95 14,M 96 17,kd 97 44 1 1 [kl] [(0,1,(kt 96))],kP 98 44 1 24 95 97,M 14 98] (G [M 99 17,kN 100 99,kMi 101 0] (K.block 9 (K.loop (G [kB 102 101 100 .lss] (Z (Y 102 ks (K.exit 9)) (Z (K.block 10 (G [kX 103 99 101 3,J 104 103 3,kZ 19 [ki,ki,kl],S 19 104 3] (G [D 105 12 3,L 106 105 1,kQi 107 106 1 false] (Y 107 (K.dops [(0,0,L 108 7 1),(1,0,M 109 15),(2,0,J 110 19 3),(3,0,kd 111 46 3 1 [ki,ki,kl] [(0,3,(kt 110))]),(4,0,kb 112 [ki,ki,kl] [(0,1,(kc 3)),(1,1,(kt 109)),(2,1,(kt 111))]),(5,0,kN 113 108),(6,0,kd 114 46 3 1 [ki,ki,kl] [(0,3,(.const (.agg #[ki,ki,kl])))]),(7,0,kP 115 46 3 40 108 114),(8,6,kX 116 115 113 3),(9,6,S 116 112 3),(10,5,S 7 115 1)]) ks)))) (K.ops [kBi 117 101 1 .add,M 101 117]))))))))))) (K.ops [kBi 118 85 1 .add,M 85 118]))))))) (Z (G [D 119 12 3,
 L 120 119 1,kQi 121 120 0 false] (Y 121 (K.wk (G [M 122 14,kC 123 118 [(kt 122)]] (K.block 11 (K.rng (kt 123) [124] (K.ops [M 20 124]) (K.block 12 (K.dops [(0,0,L 125 7 1),(1,0,M 126 20),(2,0,kb 127 [ki,ki,kl] [(0,1,(kc 2)),(2,1,(kt 126))]),(3,0,kN 128 125),(4,0,kd 129 46 3 1 [ki,ki,kl] [(0,3,(.const (.agg #[ki,ki,kl])))]),(5,0,kP 130 46 3 40 125 129),(6,6,kX 131 130 128 3),(7,6,S 131 127 3),(8,5,S 7 130 1)])))))) ks)) (G [L 132 7 1,M 6 132] kr)))))))
def zJy:Nat→Option (List (Nat×Nat)):=fun r=>match r with | 12=>some [(0,1),(1,1),(2,1),(3,1),(4,1),(5,0),(6,3),(7,0)] | 7=>some [(0,0),(1,0),(2,0),(3,0),(4,0),(5,0),(6,6),(7,6),(8,5)] | 18=>some [(0,0),(1,0),(2,0),(3,0),(4,0),(5,0),(6,6),(7,6),(8,5)] | 38=>some [(0,0),(1,0),(2,0),(3,0),(4,0),(5,0),(6,6),(7,6),(8,5)] | 32=>some [(0,0),(1,0),(2,0),(3,0),(4,0),(5,0),(6,0),(7,0),(8,6),(9,6),(10,5)] | _=>none
theorem qLJ:qE prog Tryz.f76.ntmps zJy (Tryz.f76.body.getD .skip)=some qEC.erase:=by kernel_rfl
@[simp] theorem qMp:zA prog 76=true:=by kernel_rfl
def zCP (m:Int):List Val:=(List.range (2*m+1).toNat).map fun(i:Nat)=>.mk 0 (i-m) []
def zNi (m:Int)(e:List Val):List Val:=(List.range ((if 2<m then 2 else m)+1).toNat).flatMap fun k=>(zAa (List.replicate k e)).map (.mk 4 0)
def jR (i:Int):List (List Val)→List Val
 | []=>[]
 | l::r=>l.map (fun v=>.mk 3 i [v])++jR (i+1) r
def zEr (l:List (List Val)):List Val:=(zAa l).map (.mk 2 0)
def zEZ (k:Int)(l:List (List Val)):List Val:=if k=0 then zEr l else if k=1 then jR 0 l else []
def zBd (p:Prg)(m:Int):Nat→Typ→List Val
 | 0,_=>[]
 | n+1,t=>if t.k=0 then zCP m else if t.k=1 then [.mk 1 0 [],.mk 1 1 []] else if t.k=2 then zNi m (zBd p m n (t.kids.headD Typ.zero))
  else zEZ (dfn p t.id).kind ((dfn p t.id).slots.map fun s=>zBd p m n s.typ)
theorem zHT:∀(l acc:List (List Val)),(l.foldl zBP acc).length=acc.length*(l.map List.length).foldl (· * ·) 1
 | [],acc=>by simp
 | a::l,acc=>by
  have h:∀(l:List Nat) (x y:Nat),l.foldl (· * ·) (x*y)=x*l.foldl (· * ·) y:=by
   intro l;induction l with
   | nil=>intro x y; rfl
   | cons a l ih=>intro x y; simp only[jBz,Nat.mul_assoc,ih]
  simp only[jBz,jA9,zHT l,zCw,Nat.one_mul];have:=h (l.map List.length) a.length 1;rw[Nat.mul_one]at this;rw[this,Nat.mul_assoc]
theorem zMw:∀(l:List (List Val)) (z:List Sz) (a b:Int),z.map (·.a)=l.map (fun x=>(x.length:Int))→(zDT a b z).e=0→(zDT a b z).a=a*((l.map List.length).foldl (· * ·) 1:Nat)
 | [],[],a,b,_,_=>by simp[zDT]
 | x::l,k::z,a,b,h,he=>by
  simp only[jA9,jB]at h;simp only[zDT]at he ⊢;split at he
  ·simp at he
  ·rename_i hn;rw[if_neg hn,zMw l z _ _ h.2 he,h.1];have hh:∀(l:List Nat) (x y:Nat),l.foldl (· * ·) (x*y)=x*l.foldl (· * ·) y:=by
    intro l;induction l with
    | nil=>intro x y; rfl
    | cons a l ih=>intro x y; simp only[jBz,Nat.mul_assoc,ih]
   have:=hh (l.map List.length) x.length 1;rw[Nat.mul_one]at this;simp only[jA9,jBz,Nat.one_mul,this];rw[Int.natCast_mul,Int.mul_assoc]
 | [],_::_,_,_,h,_=>by simp at h
 | _::_,[],_,_,h,_=>by simp at h
theorem zJL:∀(l:List (List Val)) (z:List Sz) (i a b:Int),z.map (·.a)=l.map (fun x=>(x.length:Int))→(zCz a b z).a=a+(jR i l).length
 | [],[],i,a,b,_=>by simp[zCz,jR]
 | x::l,k::z,i,a,b,h=>by simp only[jA9,jB]at h;simp only[zCz,jR,jA5,jB5];rw[zJL l z (i+1) _ _ h.2,h.1];omega
 | [],_::_,_,_,_,h=>by simp at h
 | _::_,[],_,_,_,h=>by simp at h
theorem zQC (m:Int)(hm:0≤m)(e:List Val)(k:Sz)(hk:k.a=e.length)(he:k.e=0):(zBr m k).a=(zNi m e).length:=by
 have h2:zBP (zBP [[]] e) e=zAa [e,e]:=rfl;unfold zBr zNi;rw[if_neg (by simp[he])];have c0:m=0∨m=1∨2≤m:=by omega
 rcases c0 with rfl | rfl | hm
 ·simp[List.range_succ]
 ·simp[List.range_succ,zAa,zCw,hk]; omega
 ·have e1:((if 2<m then 2 else m)+1).toNat=3:=by split<;>omega
  rw[e1,if_neg (by omega),if_neg (by omega)];simp[List.range_succ,zAa,zCw,hk,List.replicate];omega
theorem zV3 {p:Prg}{m:Int}{n:Nat}(ih:∀t,(jQ p m n t).e=0→(jQ p m n t).a=(zBd p m n t).length):∀(l:List Slt),zEF (l.map fun s=>jQ p m n s.typ)=0 →
 (l.map fun s=>jQ p m n s.typ).map (·.a)=(l.map fun s=>zBd p m n s.typ).map (fun x=>(x.length:Int)):=by
 intro l h;have h0:=zC7 h;rw[jC5,jC5];apply jBp;intro s hs;exact ih s.typ (h0 _ (List.mem_map_of_mem hs))
theorem zGj {k:Sz}(h:(zBN k).e=0):k.e=0∧(zBN k).a=k.a∧k.a≤4096:=by
 unfold zBN at h⊢;split at h
 ·simp at h; contradiction
 ·rename_i h1;split at h
  ·simp at h
  ·rename_i h2;rw[if_neg h1,if_neg h2];simp at h1;exact⟨h1,rfl,by omega⟩
theorem zHq {p:Prg}{n:Nat}{t:Typ}(h:yQ p n t=true)(h0:t.k≠0)(h1:t.k≠1)(h2:t.k≠2):(dfn p t.id).kind=0∨(dfn p t.id).kind=1:=by
 cases n with
 | zero=>simp[yQ]at h
 | succ n =>
  cases t with
  | mk k id kids =>
   simp only[Typ.k_mk]at h0 h1 h2;unfold dfn;simp only[yQ,Typ.k_mk,Typ.id_mk,Typ.kids_mk,h2,if_false]at h;by_cases hk:kids=[]
   ·by_cases h3:k=3
    ·cases hf:qT p.defs id with
     | none=>simp[hk,h3,hf,zFI]at h
     | some d=>simpa [hk,h3,hf,zFI] using h
    ·simp[hk,h3,h0,h1]at h
   ·simp[hk]at h
theorem zDy (p:Prg)(m:Int)(hm:0≤m):∀(n:Nat) (t:Typ),(jQ p m n t).e=0→(jQ p m n t).a=(zBd p m n t).length
 | 0,t,h=>by unfold jQ at h;split at h<;>simp at h
 | n+1,t,h=>by
  unfold jQ zBd at *
  split at h
  ·simp at h
  rename_i hv;have hv:validT p t=true:=by simpa using hv
  rw[if_neg (by simp[hv])];by_cases h0:t.k=0
  ·simp[h0,zCP]; omega
  by_cases h1:t.k=1
  ·simp[h1]
  by_cases h2:t.k=2
  ·rw[if_neg h0,if_neg h1,if_pos h2]at h⊢;rw[if_neg h0,if_neg h1,if_pos h2];obtain⟨e1,e2,_⟩:=zGj h;have e3:(jQ p m n (t.kids.headD Typ.zero)).e=0:=by
    by_cases hz:(jQ p m n (t.kids.headD Typ.zero)).e=0
    ·exact hz
    ·exact absurd e1 (by rw[zBr,if_pos hz]; exact hz)
   rw[e2];exact zQC m hm _ _ (zDy p m hm n (t.kids.headD Typ.zero) e3) e3
  ·rw[if_neg h0,if_neg h1,if_neg h2]at h⊢;rw[if_neg h0,if_neg h1,if_neg h2];obtain⟨e1,e2,_⟩:=zGj h;rw[e2];have e3:zEF ((dfn p t.id).slots.map fun s=>jQ p m n s.typ)=0:=by
    by_cases hz:zEF ((dfn p t.id).slots.map fun s=>jQ p m n s.typ)=0
    ·exact hz
    ·exact absurd e1 (by simp[zAq,hz])
   have e4:=zV3 (fun t=>zDy p m hm n t) _ e3;have e5:=zHq hv h0 h1 h2;unfold zEZ;rcases e5 with e5 | e5
   ·rw[if_pos e5];have ee:zAq (decide ((dfn p t.id).kind=0)) ((dfn p t.id).slots.map fun s=>jQ p m n s.typ)=zDT 1 1 ((dfn p t.id).slots.map fun s=>jQ p m n s.typ):=by simp[zAq,e3,e5]
    rw[ee]at e1 ⊢;rw[zMw _ _ _ _ e4 e1,zEr,jB5,zAa,zHT];simp
   ·rw[if_neg (by omega),if_pos e5];have ee:zAq (decide ((dfn p t.id).kind=0)) ((dfn p t.id).slots.map fun s=>jQ p m n s.typ)=zCz 0 1 ((dfn p t.id).slots.map fun s=>jQ p m n s.typ):=by simp[zAq,e3,e5]
    rw[ee,zJL _ _ 0 _ _ e4];simp
def num (x:Int):Val:=.mk 0 x []
theorem zTb {m:Int}{j:Nat}(h:j<(2*m+1).toNat):(zCP m).take (j+1)=(zCP m).take j++[.mk 0 (j-m) []]:=by rw[jAa (by simpa [zCP] using h)];simp[zCP]
def yZ (X:List Val)(j:Nat):List Val:=(List.range j).flatMap fun k=>(zAa (List.replicate k X)).map (.mk 4 0)
mutual
theorem zSo:∀(a:A) (k:Nat),vw jN (fun _=>none) a=a→a.bnd k=true
 | .any,k,h=>rfl
 | .nil,k,h=>rfl
 | .lit _,k,h=>rfl
 | .agg cs,k,h=>by simp only[vw,A.agg.injEq]at h; simpa [A.bnd] using zBj cs k h
 | .tup cs,k,h=>by simp only[vw,A.tup.injEq]at h; simpa [A.bnd] using zBj cs k h
 | .sl n cs,k,h=>by simp only[vw,A.sl.injEq]at h; simpa [A.bnd] using zBj cs k h.2
 | .fsl n cs,k,h=>by simp only[vw,A.fsl.injEq]at h; simpa [A.bnd] using zBj cs k h.2
 | .ptr l off,k,h=>by simp[vw]at h
 | .rptr cs,k,h=>by simp only[vw,A.rptr.injEq]at h; simpa [A.bnd] using zBj cs k h
 | .row l n,k,h=>by simp[vw,jN]at h
 | .rwp l n off,k,h=>by simp[vw]at h
 | .map l,k,h=>by simp[vw]at h
 | .clo f first cap,k,h=>by simp only[vw,A.clo.injEq,true_and]at h;simp[A.bnd,zBj first k h.1,zBj cap k h.2]
theorem zBj:∀(cs:List A) (k:Nat),vwL jN (fun _=>none) cs=cs→zBe k cs=true
 | [],k,h=>rfl
 | c::cs,k,h=>by simp only[vwL,jB]at h;simp[zBe,zSo c k h.1,zBj cs k h.2]
end
theorem zFK (X:List Val)(j:Nat):yZ X (j+1)=yZ X j++(zAa (List.replicate j X)).map (.mk 4 0):=by simp[yZ,List.range_succ]
theorem zQB (X:List Val)(j d:Nat):∃R,yZ X (j+d)=yZ X j++R:=by
 induction d with
 | zero=>exact⟨[],by simp⟩
 | succ d ih =>
  obtain⟨R,hR⟩:=ih;exact⟨R++(zAa (List.replicate (j+d) X)).map (.mk 4 0),by rw[←jBg,zFK,hR,jAy]⟩
theorem zOQ {X:List Val}{j N i:Nat}(h:j<N)(hi:i<(zAa (List.replicate j X)).length) :
 (yZ X N).take ((yZ X j).length+(i+1))=(yZ X N).take ((yZ X j).length+i)++[.mk 4 0 (zAa (List.replicate j X))[i]]∧(yZ X j).length+(i+1)≤(yZ X N).length:=by
 obtain⟨R,hR⟩:=zQB X (j+1) (N-(j+1));rw[show j+1+(N-(j+1))=N by omega,zFK]at hR;have hl:(yZ X j).length+(i+1)≤(yZ X N).length:=by rw[hR]; simp; omega
 refine⟨?_,hl⟩;rw[←jBg,jAa (by omega)]
 congr 2
 have:(yZ X N)[(yZ X j).length+i]?=some (.mk 4 0 (zAa (List.replicate j X))[i]):=by rw[hR,jAy,jAp (by omega),Nat.add_sub_cancel_left,jAd (by simpa using hi)];simp[hi]
 rw[jA2 (by omega)]at this;exact jB1 this
theorem zPX (l:List Typ)(k:Nat):zBe k (jV l)=true:=zBj _ k ((yL l).2 _ _)
attribute [simp] zPX
@[simp] theorem qO0:zA prog 119=true:=by kernel_rfl
theorem zDN (i:Int):∀(l r:List (List Val)),jR i (l++r)=jR i l++jR (i+l.length) r
 | [],r=>by simp[jR]
 | x::l,r=>by have h:=zDN (i+1) l r;simp only[jB0,jR,h,jAl,jAy];rw[show i+1+(l.length:Int)=i+((l.length+1:Nat):Int) by omega]
theorem zNX {L:List (List Val)}{j:Nat}(h:j<L.length):jR 0 (L.take (j+1))=jR 0 (L.take j)++L[j].map (fun v=>.mk 3 j [v]):=by rw[jAa h,zDN];simp[jR,jAw (Nat.le_of_lt h)]
theorem zNY {L:List (List Val)}{j k:Nat}(h:j<L.length)(hk:k<L[j].length) :
 (jR 0 L).take ((jR 0 (L.take j)).length+(k+1))=(jR 0 L).take ((jR 0 (L.take j)).length+k)++[.mk 3 j [L[j][k]]]∧(jR 0 (L.take j)).length+(k+1)≤(jR 0 L).length:=by
 have hR:jR 0 L=jR 0 (L.take j)++(L[j].map (fun v=>Val.mk 3 j [v])++jR ((j:Int)+1) (L.drop (j+1))):=by
  conv=>lhs; rw[←jC7 j L]
  rw[zDN,jAu h];simp[jR,jAw (Nat.le_of_lt h)]
 have hl:(jR 0 (L.take j)).length+(k+1)≤(jR 0 L).length:=by rw[hR]; simp; omega
 refine⟨?_,hl⟩;rw[←jBg,jAa (by omega)]
 congr 2
 have:(jR 0 L)[(jR 0 (L.take j)).length+k]?=some (.mk 3 j [L[j][k]]):=by rw[hR,jAp (by omega),Nat.add_sub_cancel_left,jAd (by simpa using hk)];simp[hk]
 rw[jA2 (by omega)]at this;exact jB1 this
theorem zNM {X:List Val}{j:Nat}(h:j≤X.length):(∀ds,(zK (X.take j)++ds).take (j*3)=zK (X.take j))∧(∀ds,(zK (X.take j)++ds).drop (j*3+3)=ds.drop 3):=by
 have hl:(zK (X.take j)).length=j*3:=by simp[jAw h]
 refine⟨fun ds=>by rw[←hl]; simp,fun ds=>by rw[←hl,List.drop_append]; simp⟩
theorem zZV (p:Prg)(hs:Sml p)(m:Int)(hm:0≤m∧m≤64):∀(n:Nat) (t:Typ),(jQ p m n t).e=0→Ret prog 76 [.agg (zM p),.agg (zU t),int m] [] (.row 0 (zBd p m n t).length) [.row false 46 3 (zBd p m n t).length (zK (zBd p m n t))]:=by
 intro n;induction n with
 | zero =>
  intro t h;unfold jQ at h;split at h<;>simp at h
 | succ n ih =>
  intro t h;have hlen:=zDy p m hm.1 (n+1) t h;have hle:=zBv p m hm (n+1) t h;refine qL Tryz.func76 rfl qLJ (rs:=[.slot 6]) (by kernel_rfl) ?_;unfold qEC;unfold jQ at h;split at h
  ·simp at h
  rename_i hv;have hv:validT p t=true:=by simpa using hv
  by_cases h0:t.k=0
  ·have ha:zBd p m (n+1) t=zCP m:=by rw[zBd,if_pos h0]
   rw[ha];have hli:(zCP m).length=(2*m+1).toNat:=by simp[zCP]
   have hw0:=jS (0-m) (by omega);have hw0':IntKind.i64.wrap (-m) = -m:=IntWalk.i64_in _ (by omega);simp -implicitDefEqProofs [zM,zU,h0,hw0,hw0'];refine jM (S:=Nat) (fun j=>[(2,int m),(6,.nil),(7,.ptr 2 0),(8,int (j-m))])
    (fun j=>[.box (zM p),.box (zU t),.box [.row 3 j],.row false 46 3 j (zK ((zCP m).take j))])
    (fun j=>(j:Int)≤2*m+1) (fun j=>(2*m+1).toNat-j) 0 (by simp; omega)
    ((zAU (l:=2) (o:=0) rfl rfl 46 3).trans (zO [0,1,2,3] 0 (by simp) (by simp) (by simp[zM,zU,h0]) (by simp))) ?_
   intro j hj;by_cases hjl:(j:Int)-m≤m
   ·have htk:=zTb (m:=m) (j:=j) (by omega);have hw1:=jS ((j:Int)-m+1) (by omega);have hll:((zCP m).take j).length=j:=by simp; omega
    have hjx:j≤(zCP m).length:=by omega
    simp -implicitDefEqProofs [hjl,zFF,zFm,hw1,jAw hjx,(zNM hjx).1,(zNM hjx).2];refine⟨⟨by simp[maxLen]; omega,by omega⟩,by omega,?_⟩;exact zP (j+1) (by omega) (by omega) (zO [0,1,2,3] 0 (by simp) (by simp) (by simp[zM,zU,h0,htk,zF,Val.k,Val.n,Val.kids]) (by simp; omega))
   ·have hjj:(j:Int)=2*m+1:=by omega
    have hjn:j=(zCP m).length:=by omega
    have htk:(zCP m).take j=zCP m:=by rw[hjn]; exact jAj (jA _)
    simp -implicitDefEqProofs [hjl,htk];exact zH [3] 0 (by simp) (by simp) (by simp[hjn]) (by simp[hjn])
  by_cases h1:t.k=1
  ·have ha:zBd p m (n+1) t=[.mk 1 0 [],.mk 1 1 []]:=by rw[zBd,if_neg h0,if_pos h1]
   rw[ha];simp -implicitDefEqProofs [zM,zU,h1];exact zH [3] 0 (by simp) (by simp) (by simp[zF,Val.k,Val.n,Val.kids]) (by simp)
  by_cases h2:t.k=2
  ·obtain⟨x,hx⟩:=zJt hv h2;rw[if_neg h0,if_neg h1,if_pos h2,hx]at h;obtain⟨e1,_,_⟩:=zGj h;have e3:(jQ p m n x).e=0:=by
    by_cases hz:(jQ p m n x).e=0
    ·exact hz
    ·exact absurd e1 (by rw[List.headD_cons,zBr,if_pos hz]; exact hz)
   have ha:zBd p m (n+1) t=yZ (zBd p m n x) ((if 2<m then 2 else m)+1).toNat:=by rw[zBd,if_neg h0,if_neg h1,if_pos h2,hx]; rfl
   have hex:=zBv p m hm n x e3;have hel:=zDy p m hm.1 n x e3;have ih:=ih x e3;rw[ha]at hlen ⊢;generalize zBd p m n x=X at ih hel hlen;simp -implicitDefEqProofs [zM,zU,h2,hx];refine zMO ih (by simp[zM,zU,zD8]) ?_;obtain⟨K,hK,hK2⟩:∃K:Nat,(if 2<m then 2 else m)+1=(K:Int)∧K≤3:=⟨((if 2<m then 2 else m)+1).toNat,by split<;>omega,by split<;>omega⟩;have hw3:IntKind.i64.wrap ((if 2<m then 2 else m)+1)=(K:Int):=by rw[←hK]; exact IntWalk.i64_in _ (by split<;>omega)
   rw[hK]at hlen ⊢;simp only[jCv]at hlen ⊢;have hW:(yZ X K).length≤4096:=by omega
   simp -implicitDefEqProofs [hw3];refine jM (S:=Nat) (fun j=>[(7,.ptr 2 0),(9,.sl X.length (zK X)),(56,int K),(57,int j)])
    (fun j=>[.box (zM p),.box (zU t),.box [.row 3 (yZ X j).length],.row false 46 3 (yZ X j).length (zK ((yZ X K).take (yZ X j).length))])
    (fun j=>j≤K) (fun j=>K-j) 0 (by simp)
    ((zAU (l:=2) (o:=0) rfl rfl 46 3).trans (zO [0,1,2,4] 1 (by simp) (by simp) (by simp[zM,zU,h2,hx,yZ]) (by simp))) ?_
   intro j hj;by_cases hjl:j<K
   ·have hw4:=zA0 j (by omega);simp -implicitDefEqProofs [hjl,hw4];have hrep:Ret prog 119 [.sl 1 (jW [X]),int j] [] (.sl (List.replicate j X).length (jW (List.replicate j X))) []:=by have:=zT4 j (by omega) (.sl X.length (zK X));rw[List.length_replicate,jW,jW,List.map_replicate];exact this
    refine qD hrep (by simp) (by simp) ?_;simp -implicitDefEqProofs;refine qD (zIK (List.replicate j X)) (by simp) (by simp) ?_;simp -implicitDefEqProofs;have hc1:(yZ X (j+1)).length=(yZ X j).length+(zAa (List.replicate j X)).length:=by rw[zFK]; simp
    refine⟨[(7,.ptr 2 0),(9,.sl X.length (zK X)),(56,int K),(57,int j),(64,.clo 154 [] [.rptr [.sl (List.replicate j X).length (jW (List.replicate j X))]])],4,(zAa (List.replicate j X)).map (fun t=>[zD5 t]),
     fun i=>[.box (zM p),.box (zU t),.box [.row 3 ((yZ X j).length+i)],.row false 46 3 ((yZ X j).length+i) (zK ((yZ X K).take ((yZ X j).length+i)))],
     154,[],[.rptr [.sl (List.replicate j X).length (jW (List.replicate j X))]],by simp,zPS,zRJ _ _ rfl (by simp; omega),zIt (τ:=[]) (by simp) (by simp) (by simp) (by simp) (by simp[zM,zU]),by omega,?_,by simp,by simp,?_,?_⟩
    ·intro i hi;simp[zM,zU]
    ·intro i hi b' M r r';simp only[jB5]at hi;obtain⟨htk,hle⟩:=zOQ hjl hi;have hlx:(yZ X j).length+i≤(yZ X K).length:=by omega
     have hcast:(((yZ X j).length:Int)+(i:Int)).toNat=(yZ X j).length+i:=by omega
     simp -implicitDefEqProofs [zFF,zFm,jAw hlx,(zNM hlx).1,(zNM hlx).2,hcast];refine⟨⟨by simp[maxLen]; omega,by omega⟩,⟨by omega,by omega⟩,?_⟩;refine⟨qU [],_,?_,rfl⟩;exact zO [0,1,2,3,4] 0 (by decide) (by simp) (by simp[zM,zU,htk,zF,Val.k,Val.n,Val.kids,jBg]) (by simp)
    ·simp -implicitDefEqProofs;exact zP (j+1) hjl (by omega) (zO [0,1,2,3] 0 (by simp) (by simp) (by simp[hc1,zM,zU]) (by simp[hw4]))
   ·have hjj:j=K:=by omega
    subst hjj;simp -implicitDefEqProofs;exact zH [3] 0 (by simp) (by simp) (by simp) (by simp)
  ·rw[if_neg h0,if_neg h1,if_neg h2]at h;obtain⟨e1,_,_⟩:=zGj h;have ha:zBd p m (n+1) t=zEZ (dfn p t.id).kind ((dfn p t.id).slots.map fun s=>zBd p m n s.typ):=by rw[zBd,if_neg h0,if_neg h1,if_neg h2]
   have e5:=zHq hv h0 h1 h2;have hsl:=hs.dfn t.id;have e3:zEF ((dfn p t.id).slots.map fun s=>jQ p m n s.typ)=0:=by
    by_cases hz:zEF ((dfn p t.id).slots.map fun s=>jQ p m n s.typ)=0
    ·exact hz
    ·exact absurd e1 (by simp[zAq,hz])
   have e4:∀s∈(dfn p t.id).slots,(jQ p m n s.typ).e=0:=fun s hs=>zC7 e3 _ (List.mem_map_of_mem hs)
   have e6:∀s∈(dfn p t.id).slots,(zBd p m n s.typ).length≤4096:=fun s hs=>by have g1:=zBv p m hm n s.typ (e4 s hs);have g2:=zDy p m hm.1 n s.typ (e4 s hs);omega
   rw[ha]at hlen ⊢;obtain⟨k,id,kids⟩:=t;simp only[Typ.k_mk,Typ.id_mk]at h0 h1 h2 hlen hsl e3 e4 e5 e6 ⊢;generalize hD:dfn p id=D at hlen hsl e3 e4 e5 e6 ⊢;rw[dfn]at hD;have hW:(zEZ D.kind (D.slots.map fun s=>zBd p m n s.typ)).length≤4096:=by omega
   have hih:∀s∈D.slots,Ret prog 76 [.agg (zM p),.agg (zU s.typ),int m] [] (.row 0 (zBd p m n s.typ).length) [.row false 46 3 (zBd p m n s.typ).length (zK (zBd p m n s.typ))]:=fun s hs=>ih s.typ (e4 s hs)
   have hLl:(D.slots.map fun s=>zBd p m n s.typ).length=D.slots.length:=by simp
   have hLg:∀i (h:i<D.slots.length),(D.slots.map fun s=>zBd p m n s.typ)[i]?=some (zBd p m n D.slots[i].typ):=fun i h=>by simp[h]
   generalize (D.slots.map fun s=>zBd p m n s.typ)=L at hLl hLg hW hlen ⊢;clear hlen h e1 ha hle hv;simp -implicitDefEqProofs [zM,zU,h0,h1,h2];refine qD (zDn p id) (by simp[zM,zC]) (by simp[zBL]) ?_;simp -implicitDefEqProofs [zBL,hD,zG];intro hl;rcases e5 with e5 | e5
   ·have hsv:zEZ D.kind L=zEr L:=by simp[zEZ,e5]
    rw[hsv]at hW ⊢;refine jM (S:=Nat) (fun i=>[(2,int m),(3,.ptr 0 0),(7,.ptr 2 0),(12,.ptr 3 0),(14,.row 4 i),(83,.sl D.slots.length (yI D.slots)),(84,int D.slots.length),(85,int i)])
     (fun i=>[.box (zM p),.box (zU (.mk k id kids)),.box [.nil],.box (zG D),.row false 44 1 i (jW (L.take i))])
     (fun i=>i≤D.slots.length) (fun i=>D.slots.length-i) 0 (by simp)
     ((zA9 (t:=14) (by simp) 44 1).trans (zO [0,1,2,3,4] 0 (by simp) (by simp) (by simp[zM,zU,zG]) (by simp))) ?_
    intro i hi;by_cases h:i<D.slots.length
    ·have hil:i<L.length:=by omega
     have hl6:=e6 D.slots[i] (jA3 h);have hc:=hih D.slots[i] (jA3 h);have hLi:=hLg i h;rw[jA2 hil]at hLi;rw[←jB1 hLi]at hc hl6;simp -implicitDefEqProofs [h,yC h,yG,zM];refine jJ hc [] (by simp) (by simp) (by simp[zM,zU]) ?_;simp -implicitDefEqProofs [zFm];refine⟨⟨by simp[maxLen]; omega,by omega⟩,?_⟩;have htL:jW (L.take (i+1))=jW (L.take i)++[.sl L[i].length (zK L[i])]:=by rw[jAa hil,zG8]; rfl
     refine jM (S:=Nat) (fun k=>[(2,int m),(3,.ptr 0 0),(7,.ptr 2 0),(12,.ptr 3 0),(14,.row 4 (i+1)),(15,int i),(83,.sl D.slots.length (yI D.slots)),(84,int D.slots.length),(85,int i),(99,.sl L[i].length (zK L[i])),(100,int L[i].length),(101,int k)])
      (fun q=>[.box (zM p),.box (zU (.mk k id kids)),.box [.nil],.box (zG D),.row false 44 1 (i+1) (jW (L.take (i+1)))])
      (fun q=>q≤L[i].length) (fun q=>L[i].length-q) 0 (by simp)
      (zO [0,1,2,3,4] 1 (by simp) (by simp) (by simp[zM,zU,zG,htL]) (by simp)) ?_
     intro q hq;by_cases hql:q<L[i].length
     ·have hwq:=zA0 q (by omega);simp -implicitDefEqProofs [hql,jL hql,zG,e5,zFF,zFm,hwq];exact zP (q+1) hql (by omega) (zO [0,1,2,3,4] 0 (by simp) (by simp) (by simp[zM,zU,zG,e5]) (by simp[hwq]))
     ·have hqq:q=L[i].length:=by omega
      subst hqq;have hwi:=zA0 i (by omega);simp -implicitDefEqProofs;exact zP (i+1) h (by omega) (zO [0,1,2,3,4] 0 (by simp) (by simp) (by simp[zM,zU,zG]) (by simp[hwi]))
    ·have hi:i=D.slots.length:=by omega
     subst hi;have htk:L.take D.slots.length=L:=jAj (by omega);simp -implicitDefEqProofs [htk,e5,zG];refine⟨qU [(7,.ptr 0 0),(14,.sl L.length (jW L))],[.box [.row 1 0],.row false 46 3 0 []],(zAU (l:=2) (o:=0) rfl rfl 46 3).trans (zO [2,5] 1 (by simp) (by simp) (by simp) (by simp[hLl])),?_⟩;simp -implicitDefEqProofs;refine qD (zIK L) (by simp) (by simp) ?_;simp -implicitDefEqProofs;have hWl:(zAa L).length=(zEr L).length:=by simp[zEr]
     refine⟨[(7,.ptr 0 0),(123,.clo 154 [] [.rptr [.sl L.length (jW L)]])],2,(zAa L).map (fun t=>[zD5 t]),
      fun i=>[.box [.row 1 i],.row false 46 3 i (zK ((zEr L).take i))],
      154,[],[.rptr [.sl L.length (jW L)]],by simp,zPS,zRJ _ _ rfl (by omega),zIt (τ:=[]) (by simp) (by simp) (by simp) (by simp) (by simp),by omega,?_,by simp,by simp,?_,?_⟩
     ·intro i hi;simp
     ·intro i hi b' M r r';simp only[jB5]at hi;have hlx:i≤(zEr L).length:=by omega
      have htk:zK ((zEr L).take (i+1))=zK ((zEr L).take i)++zF (.mk 2 0 (zAa L)[i]):=by rw[jAa (by omega),zAV];simp[zEr,zF]
      simp -implicitDefEqProofs [zFF,zFm,jAw hlx,(zNM hlx).1,(zNM hlx).2];refine⟨⟨by simp[maxLen]; omega,by omega⟩,by omega,?_⟩;refine⟨qU [],_,?_,rfl⟩;exact zO [0,1,2] 0 (by decide) (by simp) (by simp[htk,zF,Val.k,Val.n,Val.kids]) (by simp)
     ·have htk:(zEr L).take (zAa L).length=zEr L:=jAj (by omega);simp -implicitDefEqProofs [htk];exact zH [1] 0 (by simp) (by simp) (by simp[hWl]) (by simp[hWl])
   ·have hsv:zEZ D.kind L=jR 0 L:=by simp[zEZ,e5]
    rw[hsv]at hW ⊢;refine jM (S:=Nat) (fun i=>[(2,int m),(3,.ptr 0 0),(7,.ptr 2 0),(12,.ptr 3 0),(14,.row 5 i),(83,.sl D.slots.length (yI D.slots)),(84,int D.slots.length),(85,int i)])
     (fun i=>[.box (zM p),.box (zU (.mk k id kids)),.box [.row 4 (jR 0 (L.take i)).length],.box (zG D),.row false 46 3 (jR 0 (L.take i)).length (zK ((jR 0 L).take (jR 0 (L.take i)).length)),.row false 44 1 i (jW (L.take i))])
     (fun i=>i≤D.slots.length) (fun i=>D.slots.length-i) 0 (by simp)
     (((zAU (l:=2) (o:=0) rfl rfl 46 3).trans (zA9 (t:=14) (by simp) 44 1)).trans (zO [0,1,2,3,4,5] 0 (by simp) (by simp) (by simp[zM,zU,zG,jR]) (by simp))) ?_
    intro i hi;by_cases h:i<D.slots.length
    ·have hil:i<L.length:=by omega
     have hl6:=e6 D.slots[i] (jA3 h);have hc:=hih D.slots[i] (jA3 h);have hLi:=hLg i h;rw[jA2 hil]at hLi;rw[←jB1 hLi]at hc hl6;simp -implicitDefEqProofs [h,yC h,yG,zM];refine jJ hc [] (by simp) (by simp) (by simp[zM,zU]) ?_;simp -implicitDefEqProofs [zFm];refine⟨⟨by simp[maxLen]; omega,by omega⟩,?_⟩;have hcs:=zNX hil;have hc1:(jR 0 (L.take (i+1))).length=(jR 0 (L.take i)).length+L[i].length:=by rw[hcs]; simp
     have htL:jW (L.take (i+1))=jW (L.take i)++[.sl L[i].length (zK L[i])]:=by rw[jAa hil,zG8]; rfl
     refine jM (S:=Nat) (fun k=>[(2,int m),(3,.ptr 0 0),(7,.ptr 2 0),(12,.ptr 3 0),(14,.row 5 (i+1)),(15,int i),(83,.sl D.slots.length (yI D.slots)),(84,int D.slots.length),(85,int i),(99,.sl L[i].length (zK L[i])),(100,int L[i].length),(101,int k)])
      (fun q=>[.box (zM p),.box (zU (.mk k id kids)),.box [.row 4 ((jR 0 (L.take i)).length+q)],.box (zG D),.row false 46 3 ((jR 0 (L.take i)).length+q) (zK ((jR 0 L).take ((jR 0 (L.take i)).length+q))),.row false 44 1 (i+1) (jW (L.take (i+1)))])
      (fun q=>q≤L[i].length) (fun q=>L[i].length-q) 0 (by simp)
      (zO [0,1,2,3,4,5] 1 (by simp) (by simp) (by simp[zM,zU,zG,htL]) (by simp)) ?_
     intro q hq;by_cases hql:q<L[i].length
     ·obtain⟨htk,hle⟩:=zNY hil hql;have hlx:(jR 0 (L.take i)).length+q≤(jR 0 L).length:=by omega
      have hcast:(((jR 0 (L.take i)).length:Int)+(q:Int)).toNat=(jR 0 (L.take i)).length+q:=by omega
      have hwq:=zA0 q (by omega);simp -implicitDefEqProofs [hql,jL hql,zG,e5,zFF,zFm,jAw hlx,(zNM hlx).1,(zNM hlx).2,hcast,hwq];refine⟨⟨by simp[maxLen]; omega,by omega⟩,⟨by omega,by omega⟩,?_⟩;exact zP (q+1) hql (by omega) (zO [0,1,2,3,4,5] 0 (by simp) (by simp) (by simp[zM,zU,zG,e5,htk,zF,Val.k,Val.n,Val.kids,jBg]) (by simp[hwq]))
     ·have hqq:q=L[i].length:=by omega
      subst hqq;have hwi:=zA0 i (by omega);simp -implicitDefEqProofs;exact zP (i+1) h (by omega) (zO [0,1,2,3,4,5] 0 (by simp) (by simp) (by simp[zM,zU,zG,hc1]) (by simp[hwi]))
    ·have hi:i=D.slots.length:=by omega
     subst hi;have htk:L.take D.slots.length=L:=jAj (by omega);simp -implicitDefEqProofs [htk,e5,zG];exact zH [4] 0 (by simp) (by simp) (by simp) (by simp)
def zYq:K:=G [kO 3 0,kO 4 1,kMn 6,kMi 7 0] (Z (G [M 11 2,kBi 12 11 0 .lss,M 13 12,T 13 false (M 14 2),T 13 false (kBi 15 14 64 .gtr),kPt 16 13 15] (Y 16 (G [kMn 6,kMi 7 1] kr) ks)) (Z (G [J 18 3 2,J 19 4 5,M 20 2,kC 21 75 [(kt 18),(kt 19),(kt 20)],M 17 21,kE 22 17 0,kE 23 17 1,kZ 8 [ki,ki],S 8 22 2,M 9 23] (G [M 24 9,kQi 25 24 0 true] (Y 25 (G [M 26 9,kMn 6,M 7 26] kr) ks))) (G [J 27 3 2,J 28 4 5,M 29 2,kC 30 76 [(kt 27),(kt 28),(kt 29)],M 10 30] (G [M 31 10,kC 32 77 [(kt 31),(.func 78)]] (G [M 33 10,M 6 33,kMi 7 0] kr)))))
theorem qFP:zR prog Tryz.f34.ntmps (Tryz.f34.body.getD .skip)=some zYq.erase:=by kernel_rfl
@[simp] theorem qJ1:zA prog 34=true:=by kernel_rfl
def zAr (p:Prg)(t:Typ)(m:Int):List Val×Int:=if m<0∨64<m then ([],1) else if (size p m t).e≠0 then ([],(size p m t).e) else (zDJ zQb (zBd p m 24 t),0)
theorem zTG (p:Prg)(hs:Sml p)(t:Typ)(m:Int):Ret prog 34 [.agg (zM p),.agg (zU t),int m] [] (.tup [.sl (zAr p t m).1.length (zK (zAr p t m).1),int (zAr p t m).2]) []:=by
 refine zI Tryz.func34 rfl qFP (rs:=[.slot 6,.slot 7]) (by kernel_rfl) ?_;unfold zYq;by_cases h1:m<0
 ·have e:zAr p t m=([],1):=by simp[zAr,h1]
  simp -implicitDefEqProofs [h1,e];exact zB 1 (by simp)
 by_cases h2:64<m
 ·have e:zAr p t m=([],1):=by simp[zAr,h2]
  simp -implicitDefEqProofs [h1,h2,e];exact zB 1 (by simp)
 simp -implicitDefEqProofs [h1,h2,zM,zU];refine qD (zQG p hs m (by omega) t) (by simp[zM,zU]) (by simp[szR]) ?_;by_cases h3:(size p m t).e=0
 ·have e:zAr p t m=(zDJ zQb (zBd p m 24 t),0):=by simp[zAr,h1,h2,h3]
  simp -implicitDefEqProofs [szR,h3,e];refine jJ (zZV p hs m (by omega) 24 t h3) [] (by simp) (by simp) (by simp[zM,zU]) ?_;simp -implicitDefEqProofs;have hl:=zDy p m (by omega) 24 t h3;have hle:=zBv p m (by omega) 24 t h3;refine jJ (zP3 (zBd p m 24 t) (by omega)) [3] (by simp) (by simp) (by simp) ?_;simp -implicitDefEqProofs;exact zB 1 (by simp[zDJ])
 ·have e:zAr p t m=([],(size p m t).e):=by simp[zAr,h1,h2,h3]
  simp -implicitDefEqProofs [szR,h3,e];exact zB 1 (by simp)
def zGv (p:Prg)(a b:List Id)(v:Val)(fuel:Int):Bool:=decide ((jG p a v fuel).2.2=(jG p b v fuel).2.2)&&decide (zCd (jG p b v fuel).1 (jG p a v fuel).1=0)
def zOj (p:Prg)(all:List (List Id))(v:Val)(fuel:Int):Option (List Id):=all.tail.find? fun q=>!zGv p (all.headD []) q v fuel
def zEy (p:Prg)(all:List (List Id))(fuel:Int):List Val→Option (Val×List Id)
 | []=>none
 | v::l=>match zOj p all v fuel with
  | some q=>some (v,q)
  | none=>zEy p all fuel l
def zEz (p:Prg)(a b:Id)(most fuel:Int):Val×List (List Id)×Int :=
 if zAT p a=true∧zAT p b=true then
  if (zAr p (jZ a) most).2≠0 then (vz,[],(zAr p (jZ a) most).2)
  else match zEy p (yB p a b) fuel (zAr p (jZ a) most).1 with
   | some x=>(x.1,[(yB p a b).headD [],x.2],19)
   | none=>(vz,[],0)
 else (vz,[],6)
def zIl (r:Val×List (List Id)×Int):A:=.tup [.agg (zF r.1),.sl r.2.1.length (zZ r.2.1),int r.2.2]
theorem zNJ (p:Prg)(all:List (List Id))(fuel:Int){l:List Val}{i:Nat}(h:i<l.length):zEy p all fuel (l.drop i)=match zOj p all l[i] fuel with
 | some q=>some (l[i],q)
 | none=>zEy p all fuel (l.drop (i+1)):=by
 rw[jAu h]; rfl
def zYb:K:=G [kO 5 0,kO 6 1,kO 7 2,kZ 10 [ki,ki,kl],kMn 11,kMi 12 0] (G [J 26 5 2,J 27 6 3,J 28 7 3,kC 29 20 [(kt 26),(kt 27),(kt 28)],M 25 29,kE 30 25 0,kE 31 25 1,M 13 30,M 14 31] (Z (G [M 32 14,kQi 33 32 0 true] (Y 33 (G [kb 34 [ki,ki,kl] [],M 35 14,S 10 34 3,kMn 11,M 12 35] kr) ks)) (G [J 37 5 2,J 38 6 3,kb 39 kz2 [(0,1,(kc 3)),(1,3,(kt 38))],M 40 3,kC 41 34 [(kt 37),(kt 39),(kt 40)],M 36 41,kE 42 36 0,kE 43 36 1,M 15 42,M 14 43] (Z (G [M 44 14,kQi 45 44 0 true] (Y 45 (G [kb 46 [ki,ki,kl] [],M 47 14,S 10 46 3,kMn 11,M 12 47] kr) ks)) (Z (G [M 48 15,kN 49 48,kMi 50 0] (K.block 0 (K.loop (G [kB 51 50 49 .lss] (Z (Y 51 ks (K.exit 0)) (Z (K.block 1 (G [kX 52 48 50 3,J 53 52 3,kZ 17 [ki,ki,kl],S 17 53 3] (G [kZ 18 [ki,ki,kl]] (G [kMi 19 0] (G [M 54 13,kN 55 54,kMi 56 0] (K.block 2 (K.loop (G [kB 57 56 55 .lss] (Z (Y 57 ks (K.exit 2)) (Z (K.block 3 (G [M 58 56,kX 59 54 56 1,L 60 59 1,M 20 58,M 21 60] (G [J 62 5 2,M 63 21,J 64 17 3,M 65 4,kC 66 45 [(kt 62),(kt 63),(kt 64),(kt 65)],M 61 66,kE 67 61 0,kE 68 61 1,kE 69 61 2,kZ 22 [ki,ki,kl],S 22 67 3,M 23 68,M 24 69] (G [M 70 20,kQi 71 70 0 false] (Y 71 (K.ops [J 72 22 3,M 73 24,S 18 72 3,M 19 73]) (G [M 74 24,M 75 19,kQ 76 74 75 true,M 77 76,T 77 false (J 78 22 3),T 77 false (J 79 18 3),T 77 false (kC 80 60 [(kt 78),(kt 79)]),T 77 false (kQi 81 80 0 true),kPt 82 77 81] (Y 82 (Z (K.dops [(0,0,J 83 17 3),(1,0,M 84 13),(2,2,kXi 85 84 1 0),(3,2,L 86 85 1),(4,0,M 87 21),(5,0,kd 88 28 1 2 [kl,kl] [(0,1,(kt 86)),(1,1,(kt 87))]),(6,0,
 S 10 83 3),(7,0,M 11 88),(8,0,kMi 12 19)]) kr) ks))))))) (K.ops [kBi 89 56 1 .add,M 56 89]))))))))))) (K.ops [kBi 90 50 1 .add,M 50 90]))))))) (G [kb 91 [ki,ki,kl] [],S 10 91 3,kMn 11,kMi 12 0] kr))))))
def qGZ:Nat→Option (List (Nat×Nat)):=fun r=>match r with | 19=>some [(0,0),(1,0),(2,2),(3,2),(4,0),(5,0),(6,0),(7,0),(8,0)] | _=>none
theorem qF9:qE prog Tryz.f26.ntmps qGZ (Tryz.f26.body.getD .skip)=some zYb.erase:=by kernel_rfl
@[simp] theorem qJo:zA prog 26=true:=by kernel_rfl
theorem zUe {p:Prg}{hs:List Hd}(hf:Fit p hs)(hsm:Sml p)(a b:Id)(h64:(yB p a b).length≤64)(hql:∀q∈yB p a b,q.length≤1000000)(most fuel:Int)(h0 : -90000≤fuel)(h1:fuel≤90000)
 (hv:∀v∈(zAr p (jZ a) most).1,qC v≤256∧zAx v≤24) :
 Ret prog 26 [.agg (zM p),.agg (zC a),.agg (zC b),int most,int fuel] [] (zIl (zEz p a b most fuel)) []:=by
 have hP:=eP p;have hpa:=zHs hf a b h64;refine qL Tryz.func26 rfl qF9 (rs:=[.cell 10 3 true,.slot 11,.slot 12]) (by kernel_rfl) ?_;unfold zYb;simp -implicitDefEqProofs [hP,zC];refine qD hpa (by simp[hP,zC]) (by unfold zCM; split<;>simp) ?_;by_cases hst:zAT p a=true∧zAT p b=true
 ·have hpr:zCM p a b=.tup [.sl (yB p a b).length (zZ (yB p a b)),int 0]:=by unfold zCM; rw[if_pos hst]
  rw[hpr];have hval:=zTG p hsm (jZ a) most;simp -implicitDefEqProofs;refine qD hval (by simp[hP,zC,zU,jZ,Typ.k,Typ.id,Typ.kids]) (by simp) ?_;by_cases he:(zAr p (jZ a) most).2=0
  ·have hres:zEz p a b most fuel=match zEy p (yB p a b) fuel (zAr p (jZ a) most).1 with
    | some x=>(x.1,[(yB p a b).headD [],x.2],19)
    | none=>(vz,[],0):=by
    unfold zEz; rw[if_pos hst,if_neg (by simp[he])]
   rw[hres,he];generalize (zAr p (jZ a) most).1=L at *
   generalize yB p a b=all at *
   obtain⟨q0,hq0⟩:∃q0,q0=all.headD []:=⟨_,rfl⟩;have hdf:∀v,zOj p all v fuel=all.tail.find? fun q=>!zGv p q0 q v fuel:=fun v=>by rw[hq0]; rfl
   rw[←hq0];rw[←hq0]at hres;have hvz:zF vz=[int 0,int 0,.sl 0 []]:=by simp[zF,vz,Val.k,Val.n,Val.kids]
   simp -implicitDefEqProofs;intro hmx;refine jM (S:=Nat) (fun i=>[(4,int fuel),(5,.ptr 0 0),(10,.ptr 1 0),(13,.sl all.length (zZ all)),(48,.sl L.length (zK L)),(49,int L.length),(50,int i)]) (fun i=>[.box (zM p),.box (zF vz)])
    (fun i=>i≤L.length∧zEy p all fuel L=zEy p all fuel (L.drop i)) (fun i=>L.length-i) 0 ⟨by omega,by simp⟩
    (zO [0,3] 0 (by simp) (by decide) (by simp[hP,hvz]) (by simp)) ?_
   rintro i ⟨hi,hag⟩;by_cases h:i<L.length
   ·have hw:=qP h hmx;have hdr:=zNJ p all fuel h;have hvi:=hv L[i] (jA3 h);have hcd:=jL h;have hLne:¬L=[]:=fun e=>by rw[e]at h; simp at h
    generalize L[i]=v at hdr hvi hcd;simp -implicitDefEqProofs [h,hP,hvz,hcd,hLne];intro hma;refine jM (S:=Nat) (fun k=>[(4,int fuel),(5,.ptr 0 0),(10,.ptr 1 0),(13,.sl all.length (zZ all)),(48,.sl L.length (zK L)),(49,int L.length),(50,int i),(17,.ptr 2 0),(18,.ptr 3 0),(19,int (if k=0 then 0 else (jG p q0 v fuel).2.2)),(54,.sl all.length (zZ all)),(55,int all.length),(56,int k)])
     (fun k=>[.box (zM p),.box (zF vz),.box (zF v),.box (zF (if k=0 then vz else (jG p q0 v fuel).1))])
     (fun k=>k≤all.length∧∀j,0<j→j<k→zGv p q0 (all.getD j []) v fuel=true) (fun k=>all.length-k) 0 ⟨by omega,fun j _ hj=>by omega⟩
     (zO [0,1,2,3] 0 (by simp) (by decide) (by simp[hP,zF,vz,Val.k,Val.n,Val.kids]) (by simp)) ?_
    rintro k ⟨hk,hsame⟩;by_cases hk2:k<all.length
    ·have hfo:=zLR hf all[k] (hql _ (jA3 hk2)) v hvi fuel h0 h1;have hwk:=qP hk2 hma;have hpd:=zAl hk2;have hane:¬all=[]:=fun e=>by rw[e]at hk2; simp at hk2
     have hgd:all.getD k []=all[k]:=by rw[jBk,jA2 hk2]; rfl
     unfold zED at hfo;have hgd2:all[k]?.getD []=all[k]:=by rw[jA2 hk2]; rfl
     by_cases hk0:k=0
     ·subst hk0;have hhd:q0=all[0]:=by rw[hq0]; exact by cases all with | nil=>simp at hk2 | cons x l=>rfl
      rw[hhd];simp -implicitDefEqProofs [hP,hvz,hk2,hpd,hane,zF];refine qD hfo (by simp[hP,zF]) (by simp[zF]) ?_;simp -implicitDefEqProofs [zF];exact zP 1 ⟨hk2,fun j hj0 hj1=>by omega⟩ (by omega) (zO [0,1,2,3] 0 (by simp) (by decide) (by simp[hP,zF,vz,Val.k,Val.n,Val.kids,hhd]) (by simp[hhd,show IntKind.i64.wrap 1=1 from rfl]))
     ·have hk0':¬(k:Int)=0:=by omega
      simp -implicitDefEqProofs [hP,hvz,hk2,hpd,hane,zF,hk0,hk0'];refine qD hfo (by simp[hP,zF]) (by simp[zF]) ?_;simp -implicitDefEqProofs [zF,hk0,hk0'];have hse:zGv p q0 all[k] v fuel=(decide ((jG p q0 v fuel).2.2=(jG p all[k] v fuel).2.2)&&decide (zCd (jG p all[k] v fuel).1 (jG p q0 v fuel).1=0)):=rfl;have hcm:=zJ5 (jG p all[k] v fuel).1 (jG p q0 v fuel).1;have hdiff:zGv p q0 all[k] v fuel=false→zEy p all fuel L=some (v,all[k]):=fun hs=>by
       have hd:zOj p all v fuel=some all[k]:=by
        rw[hdf,List.find?_eq_some_iff_getElem];refine⟨by simp[hs],k-1,by simp; omega,?_,fun j hj=>?_⟩
        ·simp only[List.getElem_tail]
         congr 1; omega
        ·have:=hsame (j+1) (by omega) (by omega);rw[jBk,jA2 (by omega),jB9]at this;simp only[List.getElem_tail];simp[this]
       rw[hag,hdr,hd]
      have hh0:0<all.length:=by omega
      have hpd0:=zAl hh0;have hhd:q0=all[0]:=by rw[hq0]; cases all with | nil=>simp at hk2 | cons x l=>rfl
      rw[List.drop_zero]at hpd0;generalize hx0:(jG p q0 v fuel).1=x0 at *
      generalize he0:(jG p q0 v fuel).2.2=e0 at *
      generalize hxk:(jG p all[k] v fuel).1=xk at *
      generalize hek:(jG p all[k] v fuel).2.2=ek at *
      by_cases hee:ek=e0
      ·by_cases hcc:zCd xk x0=0
       ·have hs:zGv p q0 all[k] v fuel=true:=by rw[hse]; simp[hee,hcc]
        simp -implicitDefEqProofs [hee];refine qD hcm (by simp[zF]) (by simp) ?_;simp -implicitDefEqProofs [hcc];exact zP (k+1) ⟨hk2,fun j hj0 hj1=>by
         by_cases e:j=k
         ·subst e; first | (rw[hgd]; exact hs) | (rw[hgd2]; exact hs)
         ·exact hsame j hj0 (by omega)⟩ (by omega) (zO [0,1,2,3] 0 (by simp) (by decide) (by simp[hP,zF,vz,Val.k,Val.n,Val.kids,hk0,hx0,hvz]) (by simp[hk0,hwk,he0]))
       ·have hs:=hdiff (by rw[hse]; simp[hcc]);rw[hs];simp -implicitDefEqProofs [hee];refine qD hcm (by simp[zF]) (by simp) ?_;simp -implicitDefEqProofs [hcc,hane,hh0,hpd0];exact zB 0 (by simp[zIl,zF,zE9,hhd])
      ·have hs:=hdiff (by rw[hse]; simp[Ne.symm hee]);rw[hs];simp -implicitDefEqProofs [hee,hane,hh0,hpd0];exact zB 0 (by simp[zIl,zF,zE9,hhd])
    ·have hke:k=all.length:=by omega
     subst hke;have hd:zOj p all v fuel=none:=by
      rw[hdf,jCy];intro q hq;obtain⟨j,hj,rfl⟩:=jB4 hq;have hj2:j+1<all.length:=by simp at hj; omega
      have:=hsame (j+1) (by omega) hj2;rw[jBk,jA2 hj2,jB9]at this;simp only[List.getElem_tail];simp[this]
     rw[hd]at hdr;simp -implicitDefEqProofs [hP,hvz];exact zP (i+1) ⟨h,by rw[hag,hdr]⟩ (by omega) (zO [0,1] 0 (by simp) (by decide) (by simp[hP,hvz]) (by simp[hw]))
   ·have hie:i=L.length:=by omega
    subst hie;rw[List.drop_length]at hag;simp only[zEy]at hag;rw[hag];simp -implicitDefEqProofs [hP,hvz];exact zB 0 (by simp[zIl,hvz])
  ·have hres:zEz p a b most fuel=(vz,[],(zAr p (jZ a) most).2):=by unfold zEz; rw[if_pos hst,if_pos he]
   rw[hres];simp -implicitDefEqProofs [he];exact zB 0 (by simp[zIl,zF,vz,Val.k,Val.n,Val.kids])
 ·have hpr:zCM p a b=.tup [.sl 0 [],int 6]:=by unfold zCM; rw[if_neg hst]
  have hres:zEz p a b most fuel=(vz,[],6):=by unfold zEz; rw[if_neg hst]
  rw[hpr,hres];simp -implicitDefEqProofs;exact zB 0 (by simp[zIl,zF,vz,Val.k,Val.n,Val.kids])
inductive OneOf:List Val→List (List Val)→Prop
 | nil:OneOf [] []
 | cons {v:Val} {x:List Val} {t:List Val} {l:List (List Val)} (h:v∈x) (ht:OneOf t l):OneOf (v::t) (x::l)
theorem zOy:∀(l acc:List (List Val)) (t:List Val),t∈l.foldl zBP acc→∃h∈acc,∃s,t=h++s∧OneOf s l
 | [],acc,t,ht=>⟨t,ht,[],by simp,.nil⟩
 | a::l,acc,t,ht=>by obtain⟨h,hh,s,rfl,hs⟩:=zOy l (zBP acc a) t ht;simp only[zBP,List.mem_flatMap,jAm]at hh;obtain⟨g,hg,x,hx,rfl⟩:=hh;exact⟨g,hg,x::s,by simp,.cons hx hs⟩
theorem zPk {l:List (List Val)}{t:List Val}(h:t∈zAa l):OneOf t l:=by obtain⟨g,hg,s,rfl,hs⟩:=zOy l [[]] t h;simp at hg; subst hg; simpa using hs
inductive BndB (N:Nat):List Sz→List (List Val)→Prop
 | nil:BndB N [] []
 | cons {k:Sz} {x:List Val} {z:List Sz} {l:List (List Val)} (h:∀v∈x,(qC v:Int)≤k.b∧zAx v≤N) (h0:0≤k.b) (hz:BndB N z l):BndB N (k::z) (x::l)
def zLy:List Sz→Int
 | []=>0
 | k::z=>k.b+zLy z
theorem zNq {N:Nat}:∀{z:List Sz} {l:List (List Val)} {t:List Val},BndB N z l→OneOf t l→(jH t:Int)≤zLy z∧yX t≤N
 | _,_,_,.nil,.nil=>by simp[jH,yX,zLy]
 | _,_,_,.cons h _ hz,.cons hv ht=>by have h1:=zNq hz ht;have h2:=h _ hv;simp only[jH,yX,zLy];omega
theorem zVK:∀(z:List Sz) (a b:Int),(zDT a b z).e=0→(zDT a b z).b=b+zLy z
 | [],a,b,_=>by simp[zDT,zLy]
 | k::z,a,b,h=>by
  simp only[zDT]at h⊢;split at h
  ·simp at h
  ·rename_i hn;rw[if_neg hn,zVK z _ _ h];simp only[zLy]; omega
theorem zRy:∀(z:List Sz) (a b:Int),b≤(zCz a b z).b∧∀k∈z,1+k.b≤(zCz a b z).b
 | [],a,b=>by simp[zCz]
 | k::z,a,b=>by
  have:=zRy z (a+k.a) (max b (1+k.b));simp only[zCz];refine⟨by omega,fun x hx=>?_⟩;rcases jA7.1 hx with rfl | hx
  ·omega
  ·exact this.2 x hx
theorem zL7 {N:Nat}:∀{z:List Sz} {l:List (List Val)} (i:Int),BndB N z l→∀v∈jR i l,∃k∈z,(qC v:Int)≤1+k.b∧zAx v≤N+1
 | _,_,i,.nil,v,h=>by simp[jR]at h
 | _,_,i,.cons (k:=k) h h0 hz,v,hv=>by
  simp only[jR,jAb,jAm]at hv;rcases hv with ⟨x,hx,rfl⟩ | hv
  ·have:=h x hx;refine⟨k,by simp,?_⟩;have e1:qC (.mk 3 i [x])=1+jH [x]:=zCt _;have e2:zAx (.mk 3 i [x])=yX [x]+1:=zCc _;have e3:jH [x]=qC x+0:=by simp only[jH]
   have e4:yX [x]=max (zAx x) 0:=by simp only[yX]
   rw[e1,e2,e3,e4];omega
  ·obtain⟨k',hk',h'⟩:=zL7 (i+1) hz v hv;exact⟨k',by simp[hk'],h'⟩
theorem zRx {N:Nat}{k:Sz}{x:List Val}(h:∀v∈x,(qC v:Int)≤k.b∧zAx v≤N)(h0:0≤k.b):∀j,BndB N (List.replicate j k) (List.replicate j x)∧zLy (List.replicate j k)=j*k.b
 | 0=>⟨.nil,by simp[zLy]⟩
 | j+1=>by
  have:=zRx h h0 j;refine⟨.cons h h0 this.1,?_⟩;simp only[List.replicate_succ,zLy,this.2];have:((j+1:Nat):Int)*k.b=j*k.b+k.b:=by rw[Int.natCast_add,Int.add_mul]; simp
  omega
theorem zRA {k:Sz}(h:(zBN k).e=0)(ha:(zBN k).a≠0):(zBN k).b=k.b:=by
 unfold zBN at *
 split at h
 ·rename_i h1; simp at h; exact(h1 h).elim
 ·split at h
  ·simp at h
  ·rename_i h1 h2;rw[if_neg h1,if_neg h2]at ha ⊢;simp only at ha ⊢;rw[if_neg ha]
theorem zL3 {p:Prg}{m:Int}{n:Nat}(hm:0≤m∧m≤64)(ih:∀t,(jQ p m n t).e=0→∀v∈zBd p m n t,(qC v:Int)≤(jQ p m n t).b∧zAx v≤n):∀l:List Slt,(∀s∈l,(jQ p m n s.typ).e=0) →
 BndB n (l.map fun s=>jQ p m n s.typ) (l.map fun s=>zBd p m n s.typ)
 | [],_=>.nil
 | s::l,h=>.cons (ih _ (h s (by simp))) ((zBv p m hm n s.typ) (h s (by simp))).2.2.1 (zL3 hm ih l fun x hx=>h x (by simp[hx]))
theorem zJE (p:Prg)(m:Int)(hm:0≤m∧m≤64):∀(n:Nat) (t:Typ),(jQ p m n t).e=0→∀v∈zBd p m n t,(qC v:Int)≤(jQ p m n t).b∧zAx v≤n
 | 0,t,_,v,hv=>by simp[zBd]at hv
 | n+1,t,h,v,hv=>by
  have ih:=zJE p m hm n;have hlen:=zDy p m hm.1 (n+1) t h;have hpos:0<(zBd p m (n+1) t).length:=List.length_pos_of_mem hv;have ha:(jQ p m (n+1) t).a≠0:=by omega
  clear hlen hpos;unfold jQ at h ha ⊢;unfold zBd at hv;by_cases hvt:validT p t=false
  ·rw[if_pos hvt]at h; simp at h
  ·rw[if_neg hvt]at h ha ⊢;by_cases h0:t.k=0
   ·rw[if_pos h0]at hv ⊢;simp only[zCP,jAm]at hv;obtain⟨i,_,rfl⟩:=hv;simp[zCt,zCc,Val.kids,jH,yX]
   ·rw[if_neg h0]at h ha hv ⊢;by_cases h1:t.k=1
    ·rw[if_pos h1]at hv ⊢;simp only[jA7,jCz,or_false]at hv;rcases hv with rfl | rfl<;>simp[zCt,zCc,Val.kids,jH,yX]
    ·rw[if_neg h1]at h ha hv ⊢;by_cases h2:t.k=2
     ·rw[if_pos h2]at h ha hv ⊢;rw[zRA h ha];have hfe:=zGj h;have ih2:=ih (t.kids.headD Typ.zero);have hok:=zBv p m hm n (t.kids.headD Typ.zero);generalize jQ p m n (t.kids.headD Typ.zero)=kz at *
      generalize zBd p m n (t.kids.headD Typ.zero)=X at *
      have hle:=hfe.1;have hke:kz.e=0:=by
       unfold zBr at hle;split at hle
       ·rename_i hh; simpa using hle
       ·rename_i hh; simpa using hh
      obtain⟨_,_,b0,b1⟩:=hok hke;simp only[zNi,List.mem_flatMap,jAm,jCi]at hv;obtain⟨j,hj,tt,htt,rfl⟩:=hv;have hr:=zRx (N:=n) (fun v hv=>ih2 hke v hv) b0 j;have ho:=zNq hr.1 (zPk htt);rw[hr.2]at ho;have hj2:j=0∨(j=1∧1≤m)∨(j=2∧2≤m):=by split at hj<;>omega
      simp only[zCt,zCc,Val.kids];unfold zBr;rw[if_neg (by simp[hke])];refine⟨?_,by omega⟩;rcases hj2 with rfl | ⟨rfl,hj2⟩ | ⟨rfl,hj2⟩
      ·split
       ·simp only; omega
       ·split<;>simp only<;>omega
      ·rw[if_neg (by omega)];split<;>simp only<;>omega
      ·rw[if_neg (by omega),if_neg (by omega)];simp only; omega
     ·rw[if_neg h2]at h ha hv ⊢;rw[zRA h ha];have e1:=(zGj h).1;have e3:zEF ((dfn p t.id).slots.map fun s=>jQ p m n s.typ)=0:=by
       by_cases hz:zEF ((dfn p t.id).slots.map fun s=>jQ p m n s.typ)=0
       ·exact hz
       ·exact absurd e1 (by simp[zAq,hz])
      have hb:=zL3 hm ih (dfn p t.id).slots (fun s hs=>zC7 e3 _ (jAm.2 ⟨s,hs,rfl⟩));have hvt2:validT p t=true:=by simpa using hvt
      have e5:=zHq hvt2 h0 h1 h2;unfold zEZ at hv;rcases e5 with e5 | e5
      ·rw[if_pos e5]at hv;have ee:zAq (decide ((dfn p t.id).kind=0)) ((dfn p t.id).slots.map fun s=>jQ p m n s.typ)=zDT 1 1 ((dfn p t.id).slots.map fun s=>jQ p m n s.typ):=by simp[zAq,e3,e5]
       rw[ee]at e1 ⊢;rw[zVK _ _ _ e1];simp only[zEr,jAm]at hv;obtain⟨tt,htt,rfl⟩:=hv;have ho:=zNq hb (zPk htt);simp only[zCt,zCc,Val.kids];omega
      ·rw[if_neg (by omega),if_pos e5]at hv;have ee:zAq (decide ((dfn p t.id).kind=0)) ((dfn p t.id).slots.map fun s=>jQ p m n s.typ)=zCz 0 1 ((dfn p t.id).slots.map fun s=>jQ p m n s.typ):=by simp[zAq,e3,e5]
       rw[ee];obtain⟨k,hk,h3,h4⟩:=zL7 0 hb v hv;have:=(zRy ((dfn p t.id).slots.map fun s=>jQ p m n s.typ) 0 1).2 k hk;omega
theorem zN7 (p:Prg)(t:Typ)(m:Int):∀v∈(zAr p t m).1,qC v≤256∧zAx v≤24:=by
 intro v hv;unfold zAr at hv;split at hv
 ·simp at hv
 ·rename_i hm;split at hv
  ·simp at hv
  ·rename_i he;have he':(size p m t).e=0:=by simpa using he
   simp only at hv;have hv2:v∈zBd p m 24 t:=(List.mergeSort_perm _ _).mem_iff.1 hv;have:=zJE p m (by omega) 24 t he' v hv2;have hb:=(zBv p m (by omega) 24 t he').2.2.2;omega
def iD (n:Int):Id:=⟨0,1,n⟩
def exF (at_ place rec slot:Int):Exp:=.mk (iD at_) 8 place (iD rec) .zero [.mk (iD (at_+1)) 2 0 (iD slot) .zero [] []] []
def exS (i:Int)(nm:ByteArray)(pl:Int):Slt:=⟨iD i,nm,.zero,0,pl⟩
def zUQ:Exp:=.mk (iD 20) 7 0 (iD 11) .zero [exF 21 0 10 4,.mk (iD 23) 0 0 .zero .zero [] []] []
def zUT:Exp:=.mk (iD 24) 4 0 .zero .zero [exF 25 0 11 5,exF 27 1 11 5] []
def zUS:Exp:=.mk (iD 29) 4 2 .zero .zero [exF 30 0 10 6,exF 16 0 10 6] []
def zLm (i:Int)(nm:ByteArray)(s:Int)(a b:Int)(e:Exp):Dfn:=⟨iD i,5,iD 0,nm,[⟨iD s,⟨#[97]⟩,jZ (iD a),0,0⟩],jZ (iD b),e,0,[]⟩
def zDp (i:Int)(nm:ByteArray)(ss:List Slt):Dfn:=⟨iD i,0,iD 0,nm,ss,.zero,.zero,0,[]⟩
def zAh:Prg:=⟨[⟨iD 0,⟨#[109]⟩,[],[iD 1,iD 2,iD 3,iD 10,iD 11,iD 12]⟩],
 [zLm 1 ⟨#[112]⟩ 4 10 11 zUQ,zLm 2 ⟨#[113]⟩ 5 11 12 (.mk (iD 18) 7 0 (iD 12) .zero [zUT] []),zLm 3 ⟨#[114]⟩ 6 10 12 (.mk (iD 19) 7 0 (iD 12) .zero [zUS] []),
  zDp 10 ⟨#[65]⟩ [exS 7 ⟨#[120]⟩ 0],zDp 11 ⟨#[66]⟩ [exS 8 ⟨#[120]⟩ 0,exS 9 ⟨#[121]⟩ 1],zDp 12 ⟨#[67]⟩ [exS 13 ⟨#[120]⟩ 0]]⟩
def zFn (n:Int):Val:=.mk 2 0 [.mk 0 n []]
theorem zKg {rec slot:Int}{at_:Int}{j:Nat}(d:Dfn)(hd:qT zAh.defs (iD rec)=some d)(hk:d.kind=0)(hj:j<d.slots.length)(ht:d.slots[j].typ=zAY):WE zAh [⟨iD slot,0,jZ (iD rec)⟩] (exF at_ j rec slot) zAY:=by have:=WE.field (p:=zAh) [⟨iD slot,0,jZ (iD rec)⟩] (iD at_) (iD rec) .zero (.mk (iD (at_+1)) 2 0 (iD slot) .zero [] []) [] d j hd hk hj (.var _ _ _ _ _ _ _ (by simp[zEm]));rw[ht]at this;exact this
def zR7:Dfn:=zDp 10 ⟨#[65]⟩ [exS 7 ⟨#[120]⟩ 0]
def zR8:Dfn:=zDp 11 ⟨#[66]⟩ [exS 8 ⟨#[120]⟩ 0,exS 9 ⟨#[121]⟩ 1]
def zUR:Dfn:=zDp 12 ⟨#[67]⟩ [exS 13 ⟨#[120]⟩ 0]
theorem qAO:qT zAh.defs (iD 10)=some zR7:=by rfl
theorem qAP:qT zAh.defs (iD 11)=some zR8:=by rfl
theorem qGT:qT zAh.defs (iD 12)=some zUR:=by rfl
theorem zQk {k:Nat}{n:Int}(h:k<(zAh.defs.map Dfn.hd).length)(hid:(zAh.defs.map Dfn.hd)[k].id=iD n)(h1:∀(j:Nat)(hj:j<k),(zAh.defs.map Dfn.hd)[j].id≠(zAh.defs.map Dfn.hd)[k].id)
 (h2:(zAh.defs.map Dfn.hd)[k].kind=0)(h3:(zAh.defs.map Dfn.hd)[k].slots.length≤6)(h4:∀s∈(zAh.defs.map Dfn.hd)[k].slots,s.typ=zAY):TyOk (zAh.defs.map Dfn.hd) 4 (jZ (iD n)):=by
 rw[←hid];exact .dfn 3 k h h1 (.inl h2) h3 fun s hs=>by rw[h4 s hs]; exact .int _
theorem zH8:Fit zAh (zAh.defs.map Dfn.hd):=by
 have t10:TyOk (zAh.defs.map Dfn.hd) 4 (jZ (iD 10)):=zQk (k:=3) (by decide) rfl (by decide) rfl (by decide) (by intro s hs; simp[zAh,zDp,zLm,exS,Dfn.hd]at hs; subst hs; rfl);have t11:TyOk (zAh.defs.map Dfn.hd) 4 (jZ (iD 11)):=zQk (k:=4) (by decide) rfl (by decide) rfl (by decide) (by intro s hs; simp[zAh,zDp,zLm,exS,Dfn.hd]at hs; rcases hs with rfl | rfl<;>rfl);have t12:TyOk (zAh.defs.map Dfn.hd) 4 (jZ (iD 12)):=zQk (k:=5) (by decide) rfl (by decide) rfl (by decide) (by intro s hs; simp[zAh,zDp,zLm,exS,Dfn.hd]at hs; subst hs; rfl);refine⟨rfl,by decide,by decide,?_,by decide,?_⟩
 ·intro d hd;simp only[zAh,jA7,jCz,or_false]at hd;rcases hd with rfl | rfl | rfl | rfl | rfl | rfl
  ·exact⟨by decide,by decide,by decide,by decide,fun s hs=>by simp[zLm]at hs; subst hs; exact t10⟩
  ·exact⟨by decide,by decide,by decide,by decide,fun s hs=>by simp[zLm]at hs; subst hs; exact t11⟩
  ·exact⟨by decide,by decide,by decide,by decide,fun s hs=>by simp[zLm]at hs; subst hs; exact t10⟩
  ·exact⟨by decide,by decide,by decide,by decide,fun s hs=>by simp[zDp,exS]at hs; subst hs; exact .int _⟩
  ·exact⟨by decide,by decide,by decide,by decide,fun s hs=>by simp[zDp,exS]at hs; rcases hs with rfl | rfl<;>exact .int _⟩
  ·exact⟨by decide,by decide,by decide,by decide,fun s hs=>by simp[zDp,exS]at hs; subst hs; exact .int _⟩
 ·intro r d hd hb;have hm:=(zAz hd).1;simp only[zAh,jA7,jCz,or_false]at hm;rcases hm with rfl | rfl | rfl | rfl | rfl | rfl
  ·show WE zAh [⟨iD 4,0,jZ (iD 10)⟩] zUQ (jZ (iD 11));refine .record _ _ _ _ _ _ _ (by decide) zR8 qAP rfl rfl fun j hj=>?_
   have:j=0∨j=1:=by simp at hj; omega
   rcases this with rfl | rfl
   ·exact zKg (j:=0) zR7 qAO rfl (by decide) rfl
   ·exact .int _ _ _ _ _ _ (by decide) (by decide)
  ·show WE zAh [⟨iD 5,0,jZ (iD 11)⟩] (.mk (iD 18) 7 0 (iD 12) .zero [zUT] []) (jZ (iD 12));refine .record _ _ _ _ _ _ _ (by decide) zUR qGT rfl rfl fun j hj=>?_
   have:j=0:=by simp at hj; omega
   subst this;refine .op _ _ _ _ _ _ _ (by decide) [zAY,zAY] zAY (.arith _ (by decide) (by decide)) rfl fun j hj=>?_
   have:j=0∨j=1:=by simp at hj; omega
   rcases this with rfl | rfl
   ·exact zKg (j:=0) zR8 qAP rfl (by decide) rfl
   ·exact zKg (j:=1) zR8 qAP rfl (by decide) rfl
  ·show WE zAh [⟨iD 6,0,jZ (iD 10)⟩] (.mk (iD 19) 7 0 (iD 12) .zero [zUS] []) (jZ (iD 12));refine .record _ _ _ _ _ _ _ (by decide) zUR qGT rfl rfl fun j hj=>?_
   have:j=0:=by simp at hj; omega
   subst this;refine .op _ _ _ _ _ _ _ (by decide) [zAY,zAY] zAY (.arith _ (by decide) (by decide)) rfl fun j hj=>?_
   have:j=0∨j=1:=by simp at hj; omega
   rcases this with rfl | rfl
   ·exact zKg (j:=0) zR7 qAO rfl (by decide) rfl
   ·exact zKg (j:=0) zR7 qAO rfl (by decide) rfl
  all_goals exact absurd hb (by decide)
def zYw:K:=G [kZ 2 [ki,ki,ki]] (G [M 3 0,kb 4 [ki,ki,ki] [(1,1,(kc 1)),(2,1,(kt 3))],S 2 4 3] kr)
theorem qFY:zR prog Tryz.f50.ntmps (Tryz.f50.body.getD .skip)=some zYw.erase:=by kernel_rfl
@[simp] theorem qJA:zA prog 50=true:=by kernel_rfl
def zY0:K:=G [kZ 2 kz2] (G [M 3 0,kC 4 50 [(kt 3)],kb 5 kz2 [(0,1,(kc 3)),(1,3,(kt 4))],S 2 5 5] kr)
theorem qGf:zR prog Tryz.f94.ntmps (Tryz.f94.body.getD .skip)=some zY0.erase:=by kernel_rfl
@[simp] theorem qJR:zA prog 94=true:=by kernel_rfl
def zTM:K:=G [kZ 8 kz1] (G [M 9 0,kC 10 50 [(kt 9)],M 11 1,M 12 2,kC 13 50 [(kt 12)],M 14 0,kBi 15 14 1 .add,kC 16 50 [(kt 15)],M 17 3,kC 18 50 [(kt 17)],kb 19 kz1 [(0,3,(kt 16)),(3,1,(kc 2)),(5,3,(kt 18))],kd 20 39 15 1 kz1 [(0,15,(kt 19))],kb 21 kz1 [(0,3,(kt 10)),(3,1,(kc 8)),(4,1,(kt 11)),(5,3,(kt 13)),(13,1,(kt 20))],S 8 21 15] kr)
theorem qAd:zR prog Tryz.f93.ntmps (Tryz.f93.body.getD .skip)=some zTM.erase:=by kernel_rfl
@[simp] theorem qGr:zA prog 93=true:=by kernel_rfl
def zTT:K:=G [kZ 6 kz0] (G [M 9 0,kC 10 50 [(kt 9)],kC 11 50 [(kc 0)],M 12 1,kb 13 kz0 [(0,3,(kt 10)),(3,1,(kc 0)),(4,3,(kt 11)),(7,1,(kt 12))],kZ 7 kz0,S 7 13 31] (Z (G [kMi 8 0] (K.block 0 (K.loop (Z (G [M 14 8,M 15 2,kN 16 15,kB 17 14 16 .lss] (Y 17 ks (K.exit 0))) (Z (K.block 1 (K.dops [(0,0,D 20 7 8),(1,0,L 21 20 1),(2,0,M 22 2),(3,0,M 23 8),(4,0,kX 24 22 23 1),(5,0,L 25 24 1),(6,0,kC 26 50 [(kt 25)]),(7,0,⟨none,.bslice (some 27) 9 1 2 [(.string ⟨#[]⟩),(.string ⟨#[]⟩)] [(0,1,(.const (.string ⟨#[120]⟩))),(1,1,(.const (.string ⟨#[121]⟩)))]⟩),(8,0,M 28 8),(9,0,kX 29 27 28 1),(10,0,L 30 29 1),(11,0,M 31 8),(12,0,kb 32 kz5 [(0,3,(kt 26)),(3,1,(kt 30)),(10,1,(kt 31))]),(13,0,kd 33 85 11 1 kz5 [(0,11,(kt 32))]),(14,0,kP 34 85 11 112 21 33),(15,0,D 35 7 8),(16,0,S 35 34 1)])) (K.ops [M 18 8,kBi 19 18 1 .add,M 8 19])))))) (G [J 36 7 31,S 6 36 31] kr)))
theorem qAj:zR prog Tryz.f95.ntmps (Tryz.f95.body.getD .skip)=some zTT.erase:=by kernel_rfl
@[simp] theorem qGz:zA prog 95=true:=by kernel_rfl
def zYs:K:=G [kZ 0 [kl,kl]] (G [kC 5 50 [(kc 20)],kC 6 50 [(kc 11)],kC 7 93 [(kc 21),(kc 0),(kc 10),(kc 4)],kC 8 50 [(kc 23)],kb 9 kz1 [(0,3,(kt 8))],kd 10 39 15 2 kz6 [(0,15,(kt 7)),(15,15,(kt 9))],kb 11 kz1 [(0,3,(kt 5)),(3,1,(kc 7)),(5,3,(kt 6)),(13,1,(kt 10))],kZ 1 kz1,S 1 11 15] (G [kC 12 50 [(kc 24)],kC 13 93 [(kc 25),(kc 0),(kc 11),(kc 5)],kC 14 93 [(kc 27),(kc 1),(kc 11),(kc 5)],kd 15 39 15 2 kz6 [(0,15,(kt 13)),(15,15,(kt 14))],kb 16 kz1 [(0,3,(kt 12)),(3,1,(kc 4)),(4,1,(kc 0)),(13,1,(kt 15))],kZ 2 kz1,S 2 16 15] (G [kC 17 50 [(kc 29)],kC 18 93 [(kc 30),(kc 0),(kc 10),(kc 6)],kC 19 93 [(kc 16),(kc 0),(kc 10),(kc 6)],kd 20 39 15 2 kz6 [(0,15,(kt 18)),(15,15,(kt 19))],kb 21 kz1 [(0,3,(kt 17)),(3,1,(kc 4)),(4,1,(kc 2)),(13,1,(kt 20))],kZ 3 kz1,S 3 21 15] (G [kC 22 50 [(kc 0)],kC 23 50 [(kc 1)],kC 24 50 [(kc 2)],kC 25 50 [(kc 3)],kC 26 50 [(kc 10)],kC 27 50 [(kc 11)],kC 28 50 [(kc 12)],kd 29 31 3 6 [ki,ki,ki,ki,ki,ki,ki,ki,ki,ki,ki,ki,ki,ki,ki,ki,ki,ki] [(0,3,(kt 23)),(3,3,(kt 24)),(6,3,(kt 25)),(9,3,(kt 26)),(12,3,(kt 27)),(15,3,(kt 28))],⟨none,.build (some 30) kz9 [(0,3,(kt 22)),(3,1,(.const (.string ⟨#[109]⟩))),(5,1,(kt 29))]⟩,kd 31 112 6 1 kz9 [(0,6,(kt 30))],kb 32 [kl,kl] [(0,1,(kt 31))],kZ 4 [kl,kl],S 4 32 2] (Z (K.dops [(0,0,D 33 4 1),(1,0,
 L 34 33 1),(2,0,kC 35 50 [(kc 1)]),(3,0,kC 36 50 [(kc 0)]),(4,0,kC 37 50 [(kc 4)]),(5,0,kC 38 94 [(kc 10)]),(6,0,⟨none,.build (some 39) kz5 [(0,3,(kt 37)),(3,1,(.const (.string ⟨#[97]⟩))),(4,5,(kt 38))]⟩),(7,0,kd 40 85 11 1 kz5 [(0,11,(kt 39))]),(8,0,kC 41 94 [(kc 11)]),(9,0,J 42 1 15),(10,0,⟨none,.build (some 43) kz0 [(0,3,(kt 35)),(3,1,(kc 5)),(4,3,(kt 36)),(7,1,(.const (.string ⟨#[112]⟩))),(8,1,(kt 40)),(9,5,(kt 41)),(14,15,(kt 42))]⟩),(11,0,kd 44 41 31 1 kz0 [(0,31,(kt 43))]),(12,0,kP 45 41 31 352 34 44),(13,0,D 46 4 1),(14,0,S 46 45 1)]) (Z (K.dops [(0,0,D 47 4 1),(1,0,L 48 47 1),(2,0,kC 49 50 [(kc 2)]),(3,0,kC 50 50 [(kc 0)]),(4,0,kC 51 50 [(kc 5)]),(5,0,kC 52 94 [(kc 11)]),(6,0,⟨none,.build (some 53) kz5 [(0,3,(kt 51)),(3,1,(.const (.string ⟨#[97]⟩))),(4,5,(kt 52))]⟩),(7,0,kd 54 85 11 1 kz5 [(0,11,(kt 53))]),(8,0,kC 55 94 [(kc 12)]),(9,0,kC 56 50 [(kc 18)]),(10,0,kC 57 50 [(kc 12)]),(11,0,J 58 2 15),(12,0,kd 59 39 15 1 kz1 [(0,15,(kt 58))]),(13,0,kb 60 kz1 [(0,3,(kt 56)),(3,1,(kc 7)),(5,3,(kt 57)),(13,1,(kt 59))]),(14,0,⟨none,.build (some 61) kz0 [(0,3,(kt 49)),(3,1,(kc 5)),(4,3,(kt 50)),(7,1,(.const (.string ⟨#[113]⟩))),(8,1,(kt 54)),(9,5,(kt 55)),(14,15,(kt 60))]⟩),(15,0,kd 62 41 31 1 kz0 [(0,31,(kt 61))]),(16,0,kP 63 41 31 352 48 62),(17,0,D 64 4 1),(18,0,S 64 63 1)]) (Z (K.dops [(0,0,D 65 4 1),(1,0,
 L 66 65 1),(2,0,kC 67 50 [(kc 3)]),(3,0,kC 68 50 [(kc 0)]),(4,0,kC 69 50 [(kc 6)]),(5,0,kC 70 94 [(kc 10)]),(6,0,⟨none,.build (some 71) kz5 [(0,3,(kt 69)),(3,1,(.const (.string ⟨#[97]⟩))),(4,5,(kt 70))]⟩),(7,0,kd 72 85 11 1 kz5 [(0,11,(kt 71))]),(8,0,kC 73 94 [(kc 12)]),(9,0,kC 74 50 [(kc 19)]),(10,0,kC 75 50 [(kc 12)]),(11,0,J 76 3 15),(12,0,kd 77 39 15 1 kz1 [(0,15,(kt 76))]),(13,0,kb 78 kz1 [(0,3,(kt 74)),(3,1,(kc 7)),(5,3,(kt 75)),(13,1,(kt 77))]),(14,0,⟨none,.build (some 79) kz0 [(0,3,(kt 67)),(3,1,(kc 5)),(4,3,(kt 68)),(7,1,(.const (.string ⟨#[114]⟩))),(8,1,(kt 72)),(9,5,(kt 73)),(14,15,(kt 78))]⟩),(15,0,kd 80 41 31 1 kz0 [(0,31,(kt 79))]),(16,0,kP 81 41 31 352 66 80),(17,0,D 82 4 1),(18,0,S 82 81 1)]) (Z (K.dops [(0,0,D 83 4 1),(1,0,
 L 84 83 1),(2,0,kd 85 3 1 1 [ki] [(0,1,(kc 7))]),(3,0,kC 86 95 [(kc 10),(.const (.string ⟨#[65]⟩)),(kt 85)]),(4,0,kd 87 3 1 2 [ki,ki] [(0,1,(kc 8)),(1,1,(kc 9))]),(5,0,kC 88 95 [(kc 11),(.const (.string ⟨#[66]⟩)),(kt 87)]),(6,0,kd 89 3 1 1 [ki] [(0,1,(kc 13))]),(7,0,kC 90 95 [(kc 12),(.const (.string ⟨#[67]⟩)),(kt 89)]),(8,0,⟨none,.bslice (some 91) 41 31 3 [ki,ki,ki,ki,ki,ki,ki,(.string ⟨#[]⟩),kl,ki,ki,ki,ki,kl,ki,ki,ki,ki,ki,ki,ki,ki,ki,ki,ki,ki,kl,kl,kl,ki,kl,ki,ki,ki,ki,ki,ki,ki,(.string ⟨#[]⟩),kl,ki,ki,ki,ki,kl,ki,ki,ki,ki,ki,ki,ki,ki,ki,ki,ki,ki,kl,kl,kl,ki,kl,ki,ki,ki,ki,ki,ki,ki,(.string ⟨#[]⟩),kl,ki,ki,ki,ki,kl,ki,ki,ki,ki,ki,ki,ki,ki,ki,ki,ki,ki,kl,kl,kl,ki,kl] [(0,31,(kt 86)),(31,31,(kt 88)),(62,31,(kt 90))]⟩),(9,0,kP 92 41 31 352 84 91),(10,0,D 93 4 1),(11,0,S 93 92 1)]) (G [J 94 4 2,S 0 94 2] kr)))))))))
theorem qFU:zR prog Tryz.f49.ntmps (Tryz.f49.body.getD .skip)=some zYs.erase:=by kernel_rfl
@[simp] theorem qJ3:zA prog 49=true:=by kernel_rfl
theorem zD2 (n:Int):Ret prog 50 [int n] [] (.agg [int 0,int 1,int n]) []:=by refine zI Tryz.func50 rfl qFY (rs:=[.cell 2 3 true]) (by kernel_rfl) ?_;unfold zYw;simp -implicitDefEqProofs;exact zB 0 (by simp)
theorem qC4 (n:Int):Ret prog 94 [int n] [] (.agg [int 3,int 0,int 1,int n,.sl 0 []]) []:=by refine zI Tryz.func94 rfl qGf (rs:=[.cell 2 5 true]) (by kernel_rfl) ?_;unfold zY0;simp -implicitDefEqProofs;refine qD (zD2 n) (by simp) (by simp) ?_;simp -implicitDefEqProofs;exact zB 0 (by simp)
theorem qC2 (a p r s:Int)(h:IntKind.i64.wrap (a+1)=a+1):Ret prog 93 [int a,int p,int r,int s] [] (.agg (zT (exF a p r s))) []:=by refine zI Tryz.func93 rfl qAd (rs:=[.cell 8 15 true]) (by kernel_rfl) ?_;unfold zTM;simp -implicitDefEqProofs;refine qD (zD2 a) (by simp) (by simp) ?_;simp -implicitDefEqProofs;refine qD (zD2 r) (by simp) (by simp) ?_;simp -implicitDefEqProofs [h];refine qD (zD2 (a+1)) (by simp) (by simp) ?_;simp -implicitDefEqProofs;refine qD (zD2 s) (by simp) (by simp) ?_;simp -implicitDefEqProofs;exact zB 0 (by simp[exF,zT,iD,Typ.zero,Id.zero,zW])
def zMS (l:List Int):List Slt:=l.mapIdx fun i s=>exS s (([⟨#[120]⟩,⟨#[121]⟩]:List ByteArray).getD i ⟨#[]⟩) i
theorem zSA (l:List Int)(s:Int):zMS (l++[s])=zMS l++[exS s (([⟨#[120]⟩,⟨#[121]⟩]:List ByteArray).getD l.length ⟨#[]⟩) l.length]:=by simp[zMS,List.mapIdx_append]
theorem qC3 (n:Int)(nm:ByteArray)(l:List Int)(hl:l.length≤2):Ret prog 95 [int n,.lit (.string nm),.sl l.length (zAM l)] [] (.agg (zG (zDp n nm (zMS l)))) []:=by
 refine zI Tryz.func95 rfl qAj (rs:=[.cell 6 31 true]) (by kernel_rfl) ?_;unfold zTT;simp -implicitDefEqProofs;refine qD (zD2 n) (by simp) (by simp) ?_;simp -implicitDefEqProofs;refine qD (zD2 0) (by simp) (by simp) ?_;simp -implicitDefEqProofs;refine jM (S:=Nat) (fun i=>[(2,.sl l.length (zAM l)),(6,.ptr 0 0),(7,.ptr 1 0),(8,int i)]) (fun i=>[.box (kz0.map qS),.box ((zG (zDp n nm [])).set 8 (.row 2 i)),.row false 85 11 i (yI (zMS (l.take i)))])
  (fun i=>i≤l.length) (fun i=>l.length-i) 0 (by omega)
  ((zAU (l:=1) (o:=8) rfl rfl 85 11).trans (zO [0,1,2] 0 (by decide) (by simp) (by simp[zG,zDp,iD,Typ.zero,Id.zero,Exp.zero,zMS]) (by simp))) ?_
 intro i hi;by_cases h:i<l.length
 ·have hne:¬l=[]:=fun e=>by rw[e]at h; simp at h
  have hcd:=zEk h;have hsn:=zSA (l.take i) l[i];rw[←jAa h,jB2,jAw hi]at hsn;have r:=zD2 l[i];generalize l[i]=s at *
  have hI0:(0:Int)<l.length:=by omega
  rcases (by omega:i=0∨i=1)with rfl | rfl
  ·simp -implicitDefEqProofs [zG,zDp,iD,Typ.zero,Id.zero,Exp.zero,h,hne,hcd]
   intros
   refine qK r (by simp) (by simp) ?_;simp -implicitDefEqProofs;refine⟨by simp[maxLen],?_⟩;exact zP 1 h (by omega) (zO [0,1,2] 0 (by decide) (by simp) (by simp[hsn,zBR,zBA,yG,exS,zG,zDp,iD,Typ.zero,Id.zero,Exp.zero]) (by simp[show IntKind.i64.wrap 1=1 by decide]))
  ·have hI:(1:Int)<l.length:=by omega
   simp -implicitDefEqProofs [zG,zDp,iD,Typ.zero,Id.zero,Exp.zero,h,hne,hcd,hI]
   intros
   refine qK r (by simp) (by simp) ?_;simp -implicitDefEqProofs;refine⟨by simp[maxLen],?_⟩;exact zP 2 h (by omega) (zO [0,1,2] 0 (by decide) (by simp) (by simp[hsn,zBR,zBA,yG,exS,zG,zDp,iD,Typ.zero,Id.zero,Exp.zero]) (by simp[show IntKind.i64.wrap 2=2 by decide]))
 ·have hie:i=l.length:=by omega
  subst hie;rw[jAv];simp -implicitDefEqProofs [zG,zDp,iD,Typ.zero,Id.zero,Exp.zero]
  intros
  exact zB 1 (by simp[zG,zDp,iD,Typ.zero,Id.zero,Exp.zero,zMS])
section
variable {σ : St}{d:Option Nat}{env:Env}{K':Env→St→Prop}{Qp:Value→Env→St→Prop}{KD:Env→Prop}
theorem xI0 {n:Int}(hq:K' (env.put d (.agg [int 0,int 1,int n])) σ):yV prog 50 [int n] σ (Go.Abs.outK d env K' Qp):=qD (zD2 n) (by simp) (by simp) hq
theorem xI1 {n:Int}(hq:KD (env.put d (.agg [int 0,int 1,int n]))):zFc prog σ d KD 50 [int n] env:=qK (zD2 n) (by simp) (by simp) hq
theorem xT1 {n:Int}(hq:KD (env.put d (.agg [int 3,int 0,int 1,int n,.sl 0 []]))):zFc prog σ d KD 94 [int n] env:=qK (qC4 n) (by simp) (by simp) hq
theorem xF0 {a p r s:Int}(h:IntKind.i64.wrap (a+1)=a+1)(hq:K' (env.put d (.agg (zT (exF a p r s)))) σ):yV prog 93 [int a,int p,int r,int s] σ (Go.Abs.outK d env K' Qp):=qD (qC2 a p r s h) (by simp) (by simp) hq
theorem xR1 {n:Int}{nm:ByteArray}{l:List Int}(hl:l.length≤2){x:A}(hx:zBg [] [int n,.lit (.string nm),x] [int n,.lit (.string nm),.sl l.length (zAM l)])(hq:KD (env.put d (.agg (zG (zDp n nm (zMS l)))))):zFc prog σ d KD 95 [int n,.lit (.string nm),x] env:=qK (qC3 n nm l hl) hx (by simp) hq
end
theorem zWX:Ret prog 49 [] [] (.agg (zM zAh)) []:=by
 refine zI Tryz.func49 rfl qFU (rs:=[.cell 0 2 true]) (by kernel_rfl) ?_;unfold zYs
 repeat (first | refine xI0 ?_ | refine xI1 ?_ | refine xT1 ?_ | refine xF0 (by decide) ?_ | simp -implicitDefEqProofs [zT] | refine⟨by simp[maxLen],?_⟩)
 refine xR1 (l:=[7]) (by decide) (by simp) ?_
 repeat (first | refine xI0 ?_ | refine xI1 ?_ | refine xT1 ?_ | refine xF0 (by decide) ?_ | simp -implicitDefEqProofs [zT] | refine⟨by simp[maxLen],?_⟩)
 refine xR1 (l:=[8,9]) (by decide) (by simp) ?_
 repeat (first | refine xI0 ?_ | refine xI1 ?_ | refine xT1 ?_ | refine xF0 (by decide) ?_ | simp -implicitDefEqProofs [zT] | refine⟨by simp[maxLen],?_⟩)
 refine xR1 (l:=[13]) (by decide) (by simp) ?_
 repeat (first | refine xI0 ?_ | refine xI1 ?_ | refine xT1 ?_ | refine xF0 (by decide) ?_ | simp -implicitDefEqProofs [zT] | refine⟨by simp[maxLen],?_⟩)
 exact zB 1 (by simp[zM,zAh,zLm,zDp,zMS,exS,exF,zUQ,zUT,zUS,zBA,zW,yG,jV,zA8,zT,zG,qQ,zF7,zC,zL,zFy,qB,iD,jZ,zAY,Typ.zero,Id.zero,Exp.zero])
end Go.Proofs.YtdnelmeboihpkaaGreatDoor
