/-
  domain.all: the values of a type up to a bound.
  domain.Values.
  convert.Agree.
  The values of a domain are small.
  The example of the law on converters.
  The example of the law on converters, evaluated.
  Small functions of the law on converters.
  What convert answers at the example.
-/
import Derived.Test.YtdnelmeboihpkaaGreatDoorX21
import Derived.Test.YtdnelmeboihpkaaGreatDoorX20
import Derived.Test.YtdnelmeboihpkaaGreatDoorX18
import Derived.Test.YtdnelmeboihpkaaGreatDoorX12
import Derived.Test.YtdnelmeboihpkaaGreatDoorX19
import Derived.Test.YtdnelmeboihpkaaGreatDoorX17
import Derived.Test.YtdnelmeboihpkaaGreatDoorX11
set_option linter.unusedVariables false
set_option maxHeartbeats 8000000
set_option maxRecDepth 100000
set_option linter.unusedSimpArgs false
open Go.Proofs.Tryz (prog)
namespace Go.Proofs.YtdnelmeboihpkaaGreatDoor
open Go.Abs
def qGG:K:=G [kO 3 0,kO 4 1,kMn 6] (G [kZ 7 [kl]] (Z (G [D 21 4 0,L 22 21 1] (K.block 0 (G [kQi 24 22 0 false,M 23 24] (Y 23 (Z (G [M 25 2,⟨none,.neg (some 26) (kt 25)⟩,M 8 26] (K.block 1 (K.loop (Z (G [M 27 8,M 28 2,kB 29 27 28 .leq] (Y 29 ks (K.exit 1))) (Z (K.block 2 (K.dops [(0,0,L 32 7 1),(1,0,M 33 8),(2,0,kb 34 [ki,ki,kl] [(0,1,(kc 0)),(1,1,(kt 33))]),(3,0,kN 35 32),(4,0,kd 36 46 3 1 [ki,ki,kl] [(0,3,(.const (.agg #[ki,ki,kl])))]),(5,0,kP 37 46 3 40 32 36),(6,6,kX 38 37 35 3),(7,6,S 38 34 3),(8,5,S 7 37 1)])) (K.ops [M 30 8,kBi 31 30 1 .add,M 8 31])))))) (G [L 39 7 1,M 6 39] kr)) (G [kQi 41 22 1 false,M 40 41] (Y 40 (G [kb 42 [ki,ki,kl] [(0,1,(kc 1))],kb 43 [ki,ki,kl] [(0,1,(kc 1)),(1,1,(kc 1))],⟨none,.brow (some 44) 46 3 2 [ki,ki,kl,ki,ki,kl] [(0,3,(kt 42)),(3,3,(kt 43))]⟩,M 6 44] kr) (G [kQi 46 22 2 false,M 45 46] (Y 45 (Z (K.dops [(0,1,J 47 3 2),(1,1,D 48 4 4),(2,1,L 49 48 1),(3,1,kXi 50 49 5 0),(4,1,J 51 50 5),(5,0,M 52 2),(6,3,kC 53 76 [(kt 47),(kt 51),(kt 52)]),(7,0,M 9 53)]) (Z (G [M 54 2,⟨none,.mm (some 55) false [(kt 54),(kc 2)]⟩,kBi 56 55 1 .add,kMi 57 0] (K.block 3 (K.loop (G [kB 58 57 56 .lss] (Z (Y 58 ks (K.exit 3)) (Z (K.block 4 (G [M 59 57,M 10 59] (G [M 60 9,kd 61 44 1 1 [kl] [(0,1,(kt 60))],M 62 10,kC 63 119 [(kt 61),(kt 62)],kC 64 118 [(kt 63)]] (K.block 5 (K.rng (kt 64) [65] (K.ops [M 11 65]) (K.block 6 (K.dops [(0,0,L 66 7 1),(1,0,
 M 67 11),(2,0,kb 68 [ki,ki,kl] [(0,1,(kc 4)),(2,1,(kt 67))]),(3,0,kN 69 66),(4,0,kd 70 46 3 1 [ki,ki,kl] [(0,3,(.const (.agg #[ki,ki,kl])))]),(5,0,kP 71 46 3 40 66 70),(6,6,kX 72 71 69 3),(7,6,S 72 68 3),(8,5,S 7 71 1)]))))))) (K.ops [kBi 73 57 1 .add,M 57 73]))))))) (G [L 74 7 1,M 6 74] kr))) ks)))))))) (G [J 76 3 2,D 77 4 1,J 78 77 3,kC 79 96 [(kt 76),(kt 78)],M 75 79,kE 80 75 0,kE 81 75 1,kZ 12 kz0,S 12 80 31,M 13 81] (G [kMn 14] (Z (G [D 82 12 8,L 83 82 1,kN 84 83,kMi 85 0] (K.block 7 (K.loop (G [kB 86 85 84 .lss] (Z (Y 86 ks (K.exit 7)) (Z (K.block 8 (G [M 87 85,kX 88 83 85 11,J 89 88 11,kZ 16 kz5,M 15 87,S 16 89 11] (G [J 90 3 2,D 91 16 4,J 92 91 5,M 93 2,kC 94 76 [(kt 90),(kt 92),(kt 93)],M 17 94] (G [M 95 14,M 96 17,kd 97 44 1 1 [kl] [(0,1,(kt 96))],kP 98 44 1 24 95 97,M 14 98] (G [M 99 17,kN 100 99,kMi 101 0] (K.block 9 (K.loop (G [kB 102 101 100 .lss] (Z (Y 102 ks (K.exit 9)) (Z (K.block 10 (G [kX 103 99 101 3,J 104 103 3,kZ 19 [ki,ki,kl],S 19 104 3] (G [D 105 12 3,L 106 105 1,kQi 107 106 1 false] (Y 107 (K.dops [(0,0,L 108 7 1),(1,0,M 109 15),(2,0,J 110 19 3),(3,0,kd 111 46 3 1 [ki,ki,kl] [(0,3,(kt 110))]),(4,0,kb 112 [ki,ki,kl] [(0,1,(kc 3)),(1,1,(kt 109)),(2,1,(kt 111))]),(5,0,kN 113 108),(6,0,kd 114 46 3 1 [ki,ki,kl] [(0,3,(.const (.agg #[ki,ki,kl])))]),(7,0,kP 115 46 3 40 108 114),(8,6,kX 116 115 113 3),(9,6,S 116 112 3),(10,5,S 7 115 1)]) ks)))) (K.ops [kBi 117 101 1 .add,M 101 117]))))))))))) (K.ops [kBi 118 85 1 .add,M 85 118]))))))) (Z (G [D 119 12 3,
 L 120 119 1,kQi 121 120 0 false] (Y 121 (K.wk (G [M 122 14,kC 123 118 [(kt 122)]] (K.block 11 (K.rng (kt 123) [124] (K.ops [M 20 124]) (K.block 12 (K.dops [(0,0,L 125 7 1),(1,0,M 126 20),(2,0,kb 127 [ki,ki,kl] [(0,1,(kc 2)),(2,1,(kt 126))]),(3,0,kN 128 125),(4,0,kd 129 46 3 1 [ki,ki,kl] [(0,3,(.const (.agg #[ki,ki,kl])))]),(5,0,kP 130 46 3 40 125 129),(6,6,kX 131 130 128 3),(7,6,S 131 127 3),(8,5,S 7 130 1)])))))) ks)) (G [L 132 7 1,M 6 132] kr)))))))
def zKh:Nat→Option (List (Nat×Nat)):=fun r=>match r with | 12=>some [(0,1),(1,1),(2,1),(3,1),(4,1),(5,0),(6,3),(7,0)] | 7=>some [(0,0),(1,0),(2,0),(3,0),(4,0),(5,0),(6,6),(7,6),(8,5)] | 18=>some [(0,0),(1,0),(2,0),(3,0),(4,0),(5,0),(6,6),(7,6),(8,5)] | 38=>some [(0,0),(1,0),(2,0),(3,0),(4,0),(5,0),(6,6),(7,6),(8,5)] | 32=>some [(0,0),(1,0),(2,0),(3,0),(4,0),(5,0),(6,0),(7,0),(8,6),(9,6),(10,5)] | _=>none
theorem qNS:qD prog Tryz.f76.ntmps zKh (Tryz.f76.body.getD .skip)=some qGG.erase:=by kernel_rfl
@[simp] theorem qO4:zB prog 76=true:=by kernel_rfl
def zDn (m:Int):List Val:=(List.range (2*m+1).toNat).map fun(i:Nat)=>.mk 0 (i-m) []
def zOg (m:Int)(e:List Val):List Val:=(List.range ((if 2<m then 2 else m)+1).toNat).flatMap fun k=>(zAj (List.replicate k e)).map (.mk 4 0)
def jX (i:Int):List (List Val)→List Val
 | []=>[]
 | l::r=>l.map (fun v=>.mk 3 i [v])++jX (i+1) r
def zEG (l:List (List Val)):List Val:=(zAj l).map (.mk 2 0)
def zF7 (k:Int)(l:List (List Val)):List Val:=if k=0 then zEG l else if k=1 then jX 0 l else []
def zBt (p:Prg)(m:Int):Nat→Typ→List Val
 | 0,_=>[]
 | n+1,t=>if t.k=0 then zDn m else if t.k=1 then [.mk 1 0 [],.mk 1 1 []] else if t.k=2 then zOg m (zBt p m n (t.kids.headD Typ.zero))
  else zF7 (dfn p t.id).kind ((dfn p t.id).slots.map fun s=>zBt p m n s.typ)
theorem zIs:∀(l acc:List (List Val)),(l.foldl zCk acc).length=acc.length*(l.map List.length).foldl (· * ·) 1
 | [],acc=>by simp
 | a::l,acc=>by
  have h:∀(l:List Nat) (x y:Nat),l.foldl (· * ·) (x*y)=x*l.foldl (· * ·) y:=by
   intro l;induction l with
   | nil=>intro x y; rfl
   | cons a l ih=>intro x y; simp only[jBe,Nat.mul_assoc,ih]
  simp only[jBe,jAc,zIs l,zCA,Nat.one_mul];have:=h (l.map List.length) a.length 1;rw[Nat.mul_one]at this;rw[this,Nat.mul_assoc]
theorem zNr:∀(l:List (List Val)) (z:List Sz) (a b:Int),z.map (·.a)=l.map (fun x=>(x.length:Int))→(zEw a b z).e=0→(zEw a b z).a=a*((l.map List.length).foldl (· * ·) 1:Nat)
 | [],[],a,b,_,_=>by simp[zEw]
 | x::l,k::z,a,b,h,he=>by
  simp only[jAc,jB6]at h;simp only[zEw]at he ⊢;split at he
  ·simp at he
  ·rename_i hn;rw[if_neg hn,zNr l z _ _ h.2 he,h.1];have hh:∀(l:List Nat) (x y:Nat),l.foldl (· * ·) (x*y)=x*l.foldl (· * ·) y:=by
    intro l;induction l with
    | nil=>intro x y; rfl
    | cons a l ih=>intro x y; simp only[jBe,Nat.mul_assoc,ih]
   have:=hh (l.map List.length) x.length 1;rw[Nat.mul_one]at this;simp only[jAc,jBe,Nat.one_mul,this];rw[Int.natCast_mul,Int.mul_assoc]
 | [],_::_,_,_,h,_=>by simp at h
 | _::_,[],_,_,h,_=>by simp at h
theorem zK9:∀(l:List (List Val)) (z:List Sz) (i a b:Int),z.map (·.a)=l.map (fun x=>(x.length:Int))→(zCG a b z).a=a+(jX i l).length
 | [],[],i,a,b,_=>by simp[zCG,jX]
 | x::l,k::z,i,a,b,h=>by simp only[jAc,jB6]at h;simp only[zCG,jX,jA7,jB2];rw[zK9 l z (i+1) _ _ h.2,h.1];omega
 | [],_::_,_,_,_,h=>by simp at h
 | _::_,[],_,_,_,h=>by simp at h
theorem zRI (m:Int)(hm:0≤m)(e:List Val)(k:Sz)(hk:k.a=e.length)(he:k.e=0):(zBA m k).a=(zOg m e).length:=by
 have h2:zCk (zCk [[]] e) e=zAj [e,e]:=rfl;unfold zBA zOg;rw[if_neg (by simp[he])];have c0:m=0∨m=1∨2≤m:=by omega
 rcases c0 with rfl | rfl | hm
 ·simp[List.range_succ]
 ·simp[List.range_succ,zAj,zCA,hk]; omega
 ·have e1:((if 2<m then 2 else m)+1).toNat=3:=by split<;>omega
  rw[e1,if_neg (by omega),if_neg (by omega)];simp[List.range_succ,zAj,zCA,hk,List.replicate];omega
theorem zXg {p:Prg}{m:Int}{n:Nat}(ih:∀t,(jW p m n t).e=0→(jW p m n t).a=(zBt p m n t).length):∀(l:List Slt),zFg (l.map fun s=>jW p m n s.typ)=0 →
 (l.map fun s=>jW p m n s.typ).map (·.a)=(l.map fun s=>zBt p m n s.typ).map (fun x=>(x.length:Int)):=by
 intro l h;have h0:=zCN h;rw[jCc,jCc];apply jBs;intro s hs;exact ih s.typ (h0 _ (List.mem_map_of_mem hs))
theorem zG7 {k:Sz}(h:(zCj k).e=0):k.e=0∧(zCj k).a=k.a∧k.a≤4096:=by
 unfold zCj at h⊢;split at h
 ·simp at h; contradiction
 ·rename_i h1;split at h
  ·simp at h
  ·rename_i h2;rw[if_neg h1,if_neg h2];simp at h1;exact⟨h1,rfl,by omega⟩
theorem zHA {p:Prg}{n:Nat}{t:Typ}(h:jN p n t=true)(h0:t.k≠0)(h1:t.k≠1)(h2:t.k≠2):(dfn p t.id).kind=0∨(dfn p t.id).kind=1:=by
 cases n with
 | zero=>simp[jN]at h
 | succ n =>
  cases t with
  | mk k id kids =>
   simp only[Typ.k_mk]at h0 h1 h2;unfold dfn;simp only[jN,Typ.k_mk,Typ.id_mk,Typ.kids_mk,h2,if_false]at h;by_cases hk:kids=[]
   ·by_cases h3:k=3
    ·cases hf:qQ p.defs id with
     | none=>simp[hk,h3,hf,zDH]at h
     | some d=>simpa [hk,h3,hf,zDH] using h
    ·simp[hk,h3,h0,h1]at h
   ·simp[hk]at h
theorem zDO (p:Prg)(m:Int)(hm:0≤m):∀(n:Nat) (t:Typ),(jW p m n t).e=0→(jW p m n t).a=(zBt p m n t).length
 | 0,t,h=>by unfold jW at h;split at h<;>simp at h
 | n+1,t,h=>by
  unfold jW zBt at *
  split at h
  ·simp at h
  rename_i hv;have hv:validT p t=true:=by simpa using hv
  rw[if_neg (by simp[hv])];by_cases h0:t.k=0
  ·simp[h0,zDn]; omega
  by_cases h1:t.k=1
  ·simp[h1]
  by_cases h2:t.k=2
  ·rw[if_neg h0,if_neg h1,if_pos h2]at h⊢;rw[if_neg h0,if_neg h1,if_pos h2];obtain⟨e1,e2,_⟩:=zG7 h;have e3:(jW p m n (t.kids.headD Typ.zero)).e=0:=by
    by_cases hz:(jW p m n (t.kids.headD Typ.zero)).e=0
    ·exact hz
    ·exact absurd e1 (by rw[zBA,if_pos hz]; exact hz)
   rw[e2];exact zRI m hm _ _ (zDO p m hm n (t.kids.headD Typ.zero) e3) e3
  ·rw[if_neg h0,if_neg h1,if_neg h2]at h⊢;rw[if_neg h0,if_neg h1,if_neg h2];obtain⟨e1,e2,_⟩:=zG7 h;rw[e2];have e3:zFg ((dfn p t.id).slots.map fun s=>jW p m n s.typ)=0:=by
    by_cases hz:zFg ((dfn p t.id).slots.map fun s=>jW p m n s.typ)=0
    ·exact hz
    ·exact absurd e1 (by simp[zAx,hz])
   have e4:=zXg (fun t=>zDO p m hm n t) _ e3;have e5:=zHA hv h0 h1 h2;unfold zF7;rcases e5 with e5 | e5
   ·rw[if_pos e5];have ee:zAx (decide ((dfn p t.id).kind=0)) ((dfn p t.id).slots.map fun s=>jW p m n s.typ)=zEw 1 1 ((dfn p t.id).slots.map fun s=>jW p m n s.typ):=by simp[zAx,e3,e5]
    rw[ee]at e1 ⊢;rw[zNr _ _ _ _ e4 e1,zEG,jB2,zAj,zIs];simp
   ·rw[if_neg (by omega),if_pos e5];have ee:zAx (decide ((dfn p t.id).kind=0)) ((dfn p t.id).slots.map fun s=>jW p m n s.typ)=zCG 0 1 ((dfn p t.id).slots.map fun s=>jW p m n s.typ):=by simp[zAx,e3,e5]
    rw[ee,zK9 _ _ 0 _ _ e4];simp
def num (x:Int):Val:=.mk 0 x []
theorem zUy {m:Int}{j:Nat}(h:j<(2*m+1).toNat):(zDn m).take (j+1)=(zDn m).take j++[.mk 0 (j-m) []]:=by rw[jA9 (by simpa [zDn] using h)];simp[zDn]
def zAh (X:List Val)(j:Nat):List Val:=(List.range j).flatMap fun k=>(zAj (List.replicate k X)).map (.mk 4 0)
mutual
theorem zTC:∀(a:A) (k:Nat),vw jL (fun _=>none) a=a→a.bnd k=true
 | .any,k,h=>rfl
 | .nil,k,h=>rfl
 | .lit _,k,h=>rfl
 | .agg cs,k,h=>by simp only[vw,A.agg.injEq]at h; simpa [A.bnd] using zBz cs k h
 | .tup cs,k,h=>by simp only[vw,A.tup.injEq]at h; simpa [A.bnd] using zBz cs k h
 | .sl n cs,k,h=>by simp only[vw,A.sl.injEq]at h; simpa [A.bnd] using zBz cs k h.2
 | .fsl n cs,k,h=>by simp only[vw,A.fsl.injEq]at h; simpa [A.bnd] using zBz cs k h.2
 | .ptr l off,k,h=>by simp[vw]at h
 | .rptr cs,k,h=>by simp only[vw,A.rptr.injEq]at h; simpa [A.bnd] using zBz cs k h
 | .row l n,k,h=>by simp[vw,jL]at h
 | .rwp l n off,k,h=>by simp[vw]at h
 | .map l,k,h=>by simp[vw]at h
 | .clo f first cap,k,h=>by simp only[vw,A.clo.injEq,true_and]at h;simp[A.bnd,zBz first k h.1,zBz cap k h.2]
theorem zBz:∀(cs:List A) (k:Nat),vwL jL (fun _=>none) cs=cs→zBq k cs=true
 | [],k,h=>rfl
 | c::cs,k,h=>by simp only[vwL,jB6]at h;simp[zBq,zTC c k h.1,zBz cs k h.2]
end
theorem zGi (X:List Val)(j:Nat):zAh X (j+1)=zAh X j++(zAj (List.replicate j X)).map (.mk 4 0):=by simp[zAh,List.range_succ]
theorem zRH (X:List Val)(j d:Nat):∃R,zAh X (j+d)=zAh X j++R:=by
 induction d with
 | zero=>exact⟨[],by simp⟩
 | succ d ih =>
  obtain⟨R,hR⟩:=ih;exact⟨R++(zAj (List.replicate (j+d) X)).map (.mk 4 0),by rw[←jBh,zGi,hR,jB3]⟩
theorem zPR {X:List Val}{j N i:Nat}(h:j<N)(hi:i<(zAj (List.replicate j X)).length) :
 (zAh X N).take ((zAh X j).length+(i+1))=(zAh X N).take ((zAh X j).length+i)++[.mk 4 0 (zAj (List.replicate j X))[i]]∧(zAh X j).length+(i+1)≤(zAh X N).length:=by
 obtain⟨R,hR⟩:=zRH X (j+1) (N-(j+1));rw[show j+1+(N-(j+1))=N by omega,zGi]at hR;have hl:(zAh X j).length+(i+1)≤(zAh X N).length:=by rw[hR]; simp; omega
 refine⟨?_,hl⟩;rw[←jBh,jA9 (by omega)]
 congr 2
 have:(zAh X N)[(zAh X j).length+i]?=some (.mk 4 0 (zAj (List.replicate j X))[i]):=by rw[hR,jB3,jAr (by omega),Nat.add_sub_cancel_left,jAd (by simpa using hi)];simp[hi]
 rw[jA2 (by omega)]at this;exact jAs this
theorem zRc (l:List Typ)(k:Nat):zBq k (jY l)=true:=zBz _ k ((yO l).2 _ _)
attribute [simp] zRc
@[simp] theorem qQF:zB prog 119=true:=by kernel_rfl
theorem zEp (i:Int):∀(l r:List (List Val)),jX i (l++r)=jX i l++jX (i+l.length) r
 | [],r=>by simp[jX]
 | x::l,r=>by have h:=zEp (i+1) l r;simp only[jB5,jX,h,jAl,jB3];rw[show i+1+(l.length:Int)=i+((l.length+1:Nat):Int) by omega]
theorem zOY {L:List (List Val)}{j:Nat}(h:j<L.length):jX 0 (L.take (j+1))=jX 0 (L.take j)++L[j].map (fun v=>.mk 3 j [v]):=by rw[jA9 h,zEp];simp[jX,jAx (Nat.le_of_lt h)]
theorem zOZ {L:List (List Val)}{j k:Nat}(h:j<L.length)(hk:k<L[j].length) :
 (jX 0 L).take ((jX 0 (L.take j)).length+(k+1))=(jX 0 L).take ((jX 0 (L.take j)).length+k)++[.mk 3 j [L[j][k]]]∧(jX 0 (L.take j)).length+(k+1)≤(jX 0 L).length:=by
 have hR:jX 0 L=jX 0 (L.take j)++(L[j].map (fun v=>Val.mk 3 j [v])++jX ((j:Int)+1) (L.drop (j+1))):=by
  conv=>lhs; rw[←jCb j L]
  rw[zEp,jAv h];simp[jX,jAx (Nat.le_of_lt h)]
 have hl:(jX 0 (L.take j)).length+(k+1)≤(jX 0 L).length:=by rw[hR]; simp; omega
 refine⟨?_,hl⟩;rw[←jBh,jA9 (by omega)]
 congr 2
 have:(jX 0 L)[(jX 0 (L.take j)).length+k]?=some (.mk 3 j [L[j][k]]):=by rw[hR,jAr (by omega),Nat.add_sub_cancel_left,jAd (by simpa using hk)];simp[hk]
 rw[jA2 (by omega)]at this;exact jAs this
theorem zOO {X:List Val}{j:Nat}(h:j≤X.length):(∀ds,(zJ (X.take j)++ds).take (j*3)=zJ (X.take j))∧(∀ds,(zJ (X.take j)++ds).drop (j*3+3)=ds.drop 3):=by
 have hl:(zJ (X.take j)).length=j*3:=by simp[jAx h]
 refine⟨fun ds=>by rw[←hl]; simp,fun ds=>by rw[←hl,List.drop_append]; simp⟩
theorem qCd (p:Prg)(hs:Sml p)(m:Int)(hm:0≤m∧m≤64):∀(n:Nat) (t:Typ),(jW p m n t).e=0→Ret prog 76 [.agg (zK p),.agg (zM t),int m] [] (.row 0 (zBt p m n t).length) [.row false 46 3 (zBt p m n t).length (zJ (zBt p m n t))]:=by
 intro n;induction n with
 | zero =>
  intro t h;unfold jW at h;split at h<;>simp at h
 | succ n ih =>
  intro t h;have hlen:=zDO p m hm.1 (n+1) t h;have hle:=zBH p m hm (n+1) t h;refine qP Tryz.func76 rfl qNS (rs:=[.slot 6]) (by kernel_rfl) ?_;unfold qGG;unfold jW at h;split at h
  ·simp at h
  rename_i hv;have hv:validT p t=true:=by simpa using hv
  by_cases h0:t.k=0
  ·have ha:zBt p m (n+1) t=zDn m:=by rw[zBt,if_pos h0]
   rw[ha];have hli:(zDn m).length=(2*m+1).toNat:=by simp[zDn]
   have hw0:=jT (0-m) (by omega);have hw0':IntKind.i64.wrap (-m) = -m:=IntWalk.i64_in _ (by omega);simp -implicitDefEqProofs [zK,zM,h0,hw0,hw0'];refine jR (S:=Nat) (fun j=>[(2,int m),(6,.nil),(7,.ptr 2 0),(8,int (j-m))])
    (fun j=>[.box (zK p),.box (zM t),.box [.row 3 j],.row false 46 3 j (zJ ((zDn m).take j))])
    (fun j=>(j:Int)≤2*m+1) (fun j=>(2*m+1).toNat-j) 0 (by simp; omega)
    ((zA9 (l:=2) (o:=0) rfl rfl 46 3).trans (zP [0,1,2,3] 0 (by simp) (by simp) (by simp[zK,zM,h0]) (by simp))) ?_
   intro j hj;by_cases hjl:(j:Int)-m≤m
   ·have htk:=zUy (m:=m) (j:=j) (by omega);have hw1:=jT ((j:Int)-m+1) (by omega);have hll:((zDn m).take j).length=j:=by simp; omega
    have hjx:j≤(zDn m).length:=by omega
    simp -implicitDefEqProofs [hjl,zGf,zDU,hw1,jAx hjx,(zOO hjx).1,(zOO hjx).2];refine⟨⟨by simp[maxLen]; omega,by omega⟩,by omega,?_⟩;exact zO (j+1) (by omega) (by omega) (zP [0,1,2,3] 0 (by simp) (by simp) (by simp[zK,zM,h0,htk,zC,Val.k,Val.n,Val.kids]) (by simp; omega))
   ·have hjj:(j:Int)=2*m+1:=by omega
    have hjn:j=(zDn m).length:=by omega
    have htk:(zDn m).take j=zDn m:=by rw[hjn]; exact jAk (jA _)
    simp -implicitDefEqProofs [hjl,htk];exact zL [3] 0 (by simp) (by simp) (by simp[hjn]) (by simp[hjn])
  by_cases h1:t.k=1
  ·have ha:zBt p m (n+1) t=[.mk 1 0 [],.mk 1 1 []]:=by rw[zBt,if_neg h0,if_pos h1]
   rw[ha];simp -implicitDefEqProofs [zK,zM,h1];exact zL [3] 0 (by simp) (by simp) (by simp[zC,Val.k,Val.n,Val.kids]) (by simp)
  by_cases h2:t.k=2
  ·obtain⟨x,hx⟩:=zKc hv h2;rw[if_neg h0,if_neg h1,if_pos h2,hx]at h;obtain⟨e1,_,_⟩:=zG7 h;have e3:(jW p m n x).e=0:=by
    by_cases hz:(jW p m n x).e=0
    ·exact hz
    ·exact absurd e1 (by rw[jD9,zBA,if_pos hz]; exact hz)
   have ha:zBt p m (n+1) t=zAh (zBt p m n x) ((if 2<m then 2 else m)+1).toNat:=by rw[zBt,if_neg h0,if_neg h1,if_pos h2,hx]; rfl
   have hex:=zBH p m hm n x e3;have hel:=zDO p m hm.1 n x e3;have ih:=ih x e3;rw[ha]at hlen ⊢;generalize zBt p m n x=X at ih hel hlen;simp -implicitDefEqProofs [zK,zM,h2,hx];refine zNL ih (by simp[zK,zM,zBx]) ?_;obtain⟨K,hK,hK2⟩:∃K:Nat,(if 2<m then 2 else m)+1=(K:Int)∧K≤3:=⟨((if 2<m then 2 else m)+1).toNat,by split<;>omega,by split<;>omega⟩;have hw3:IntKind.i64.wrap ((if 2<m then 2 else m)+1)=(K:Int):=by rw[←hK]; exact IntWalk.i64_in _ (by split<;>omega)
   rw[hK]at hlen ⊢;simp only[jCd]at hlen ⊢;have hW:(zAh X K).length≤4096:=by omega
   simp -implicitDefEqProofs [hw3];refine jR (S:=Nat) (fun j=>[(7,.ptr 2 0),(9,.sl X.length (zJ X)),(56,int K),(57,int j)])
    (fun j=>[.box (zK p),.box (zM t),.box [.row 3 (zAh X j).length],.row false 46 3 (zAh X j).length (zJ ((zAh X K).take (zAh X j).length))])
    (fun j=>j≤K) (fun j=>K-j) 0 (by simp)
    ((zA9 (l:=2) (o:=0) rfl rfl 46 3).trans (zP [0,1,2,4] 1 (by simp) (by simp) (by simp[zK,zM,h2,hx,zAh]) (by simp))) ?_
   intro j hj;by_cases hjl:j<K
   ·have hw4:=zAz j (by omega);simp -implicitDefEqProofs [hjl,hw4];have hrep:Ret prog 119 [.sl 1 (jZ [X]),int j] [] (.sl (List.replicate j X).length (jZ (List.replicate j X))) []:=by have:=zUP j (by omega) (.sl X.length (zJ X));rw[List.length_replicate,jZ,jZ,List.map_replicate];exact this
    refine qE hrep (by simp) (by simp) ?_;simp -implicitDefEqProofs;refine qE (zJv (List.replicate j X)) (by simp) (by simp) ?_;simp -implicitDefEqProofs;have hc1:(zAh X (j+1)).length=(zAh X j).length+(zAj (List.replicate j X)).length:=by rw[zGi]; simp
    refine⟨[(7,.ptr 2 0),(9,.sl X.length (zJ X)),(56,int K),(57,int j),(64,.clo 154 [] [.rptr [.sl (List.replicate j X).length (jZ (List.replicate j X))]])],4,(zAj (List.replicate j X)).map (fun t=>[zDX t]),
     fun i=>[.box (zK p),.box (zM t),.box [.row 3 ((zAh X j).length+i)],.row false 46 3 ((zAh X j).length+i) (zJ ((zAh X K).take ((zAh X j).length+i)))],
     154,[],[.rptr [.sl (List.replicate j X).length (jZ (List.replicate j X))]],by simp,zQX,zTa _ _ rfl (by simp; omega),zIO (τ:=[]) (by simp) (by simp) (by simp) (by simp) (by simp[zK,zM]),by omega,?_,by simp,by simp,?_,?_⟩
    ·intro i hi;simp[zK,zM]
    ·intro i hi b' M r r';simp only[jB2]at hi;obtain⟨htk,hle⟩:=zPR hjl hi;have hlx:(zAh X j).length+i≤(zAh X K).length:=by omega
     have hcast:(((zAh X j).length:Int)+(i:Int)).toNat=(zAh X j).length+i:=by omega
     simp -implicitDefEqProofs [zGf,zDU,jAx hlx,(zOO hlx).1,(zOO hlx).2,hcast];refine⟨⟨by simp[maxLen]; omega,by omega⟩,⟨by omega,by omega⟩,?_⟩;refine⟨qG [],_,?_,rfl⟩;exact zP [0,1,2,3,4] 0 (by decide) (by simp) (by simp[zK,zM,htk,zC,Val.k,Val.n,Val.kids,jBh]) (by simp)
    ·simp -implicitDefEqProofs;exact zO (j+1) hjl (by omega) (zP [0,1,2,3] 0 (by simp) (by simp) (by simp[hc1,zK,zM]) (by simp[hw4]))
   ·have hjj:j=K:=by omega
    subst hjj;simp -implicitDefEqProofs;exact zL [3] 0 (by simp) (by simp) (by simp) (by simp)
  ·rw[if_neg h0,if_neg h1,if_neg h2]at h;obtain⟨e1,_,_⟩:=zG7 h;have ha:zBt p m (n+1) t=zF7 (dfn p t.id).kind ((dfn p t.id).slots.map fun s=>zBt p m n s.typ):=by rw[zBt,if_neg h0,if_neg h1,if_neg h2]
   have e5:=zHA hv h0 h1 h2;have hsl:=hs.dfn t.id;have e3:zFg ((dfn p t.id).slots.map fun s=>jW p m n s.typ)=0:=by
    by_cases hz:zFg ((dfn p t.id).slots.map fun s=>jW p m n s.typ)=0
    ·exact hz
    ·exact absurd e1 (by simp[zAx,hz])
   have e4:∀s∈(dfn p t.id).slots,(jW p m n s.typ).e=0:=fun s hs=>zCN e3 _ (List.mem_map_of_mem hs)
   have e6:∀s∈(dfn p t.id).slots,(zBt p m n s.typ).length≤4096:=fun s hs=>by have g1:=zBH p m hm n s.typ (e4 s hs);have g2:=zDO p m hm.1 n s.typ (e4 s hs);omega
   rw[ha]at hlen ⊢;obtain⟨k,id,kids⟩:=t;simp only[Typ.k_mk,Typ.id_mk]at h0 h1 h2 hlen hsl e3 e4 e5 e6 ⊢;generalize hD:dfn p id=D at hlen hsl e3 e4 e5 e6 ⊢;rw[dfn]at hD;have hW:(zF7 D.kind (D.slots.map fun s=>zBt p m n s.typ)).length≤4096:=by omega
   have hih:∀s∈D.slots,Ret prog 76 [.agg (zK p),.agg (zM s.typ),int m] [] (.row 0 (zBt p m n s.typ).length) [.row false 46 3 (zBt p m n s.typ).length (zJ (zBt p m n s.typ))]:=fun s hs=>ih s.typ (e4 s hs)
   have hLl:(D.slots.map fun s=>zBt p m n s.typ).length=D.slots.length:=by simp
   have hLg:∀i (h:i<D.slots.length),(D.slots.map fun s=>zBt p m n s.typ)[i]?=some (zBt p m n D.slots[i].typ):=fun i h=>by simp[h]
   generalize (D.slots.map fun s=>zBt p m n s.typ)=L at hLl hLg hW hlen ⊢;clear hlen h e1 ha hle hv;simp -implicitDefEqProofs [zK,zM,h0,h1,h2];refine qE (zDF p id) (by simp[zK,zG]) (by simp[zAS]) ?_;simp -implicitDefEqProofs [zAS,hD,zF];intro hl;rcases e5 with e5 | e5
   ·have hsv:zF7 D.kind L=zEG L:=by simp[zF7,e5]
    rw[hsv]at hW ⊢;refine jR (S:=Nat) (fun i=>[(2,int m),(3,.ptr 0 0),(7,.ptr 2 0),(12,.ptr 3 0),(14,.row 4 i),(83,.sl D.slots.length (yN D.slots)),(84,int D.slots.length),(85,int i)])
     (fun i=>[.box (zK p),.box (zM (.mk k id kids)),.box [.nil],.box (zF D),.row false 44 1 i (jZ (L.take i))])
     (fun i=>i≤D.slots.length) (fun i=>D.slots.length-i) 0 (by simp)
     ((zAG (t:=14) (by simp) 44 1).trans (zP [0,1,2,3,4] 0 (by simp) (by simp) (by simp[zK,zM,zF]) (by simp))) ?_
    intro i hi;by_cases h:i<D.slots.length
    ·have hil:i<L.length:=by omega
     have hl6:=e6 D.slots[i] (jA3 h);have hc:=hih D.slots[i] (jA3 h);have hLi:=hLg i h;rw[jA2 hil]at hLi;rw[←jAs hLi]at hc hl6;simp -implicitDefEqProofs [h,jV h,yK,zK];refine jO hc [] (by simp) (by simp) (by simp[zK,zM]) ?_;simp -implicitDefEqProofs [zDU];refine⟨⟨by simp[maxLen]; omega,by omega⟩,?_⟩;have htL:jZ (L.take (i+1))=jZ (L.take i)++[.sl L[i].length (zJ L[i])]:=by rw[jA9 hil,zGV]; rfl
     refine jR (S:=Nat) (fun k=>[(2,int m),(3,.ptr 0 0),(7,.ptr 2 0),(12,.ptr 3 0),(14,.row 4 (i+1)),(15,int i),(83,.sl D.slots.length (yN D.slots)),(84,int D.slots.length),(85,int i),(99,.sl L[i].length (zJ L[i])),(100,int L[i].length),(101,int k)])
      (fun q=>[.box (zK p),.box (zM (.mk k id kids)),.box [.nil],.box (zF D),.row false 44 1 (i+1) (jZ (L.take (i+1)))])
      (fun q=>q≤L[i].length) (fun q=>L[i].length-q) 0 (by simp)
      (zP [0,1,2,3,4] 1 (by simp) (by simp) (by simp[zK,zM,zF,htL]) (by simp)) ?_
     intro q hq;by_cases hql:q<L[i].length
     ·have hwq:=zAz q (by omega);simp -implicitDefEqProofs [hql,qY hql,zF,e5,zGf,zDU,hwq];exact zO (q+1) hql (by omega) (zP [0,1,2,3,4] 0 (by simp) (by simp) (by simp[zK,zM,zF,e5]) (by simp[hwq]))
     ·have hqq:q=L[i].length:=by omega
      subst hqq;have hwi:=zAz i (by omega);simp -implicitDefEqProofs;exact zO (i+1) h (by omega) (zP [0,1,2,3,4] 0 (by simp) (by simp) (by simp[zK,zM,zF]) (by simp[hwi]))
    ·have hi:i=D.slots.length:=by omega
     subst hi;have htk:L.take D.slots.length=L:=jAk (by omega);simp -implicitDefEqProofs [htk,e5,zF];refine⟨qG [(7,.ptr 0 0),(14,.sl L.length (jZ L))],[.box [.row 1 0],.row false 46 3 0 []],(zA9 (l:=2) (o:=0) rfl rfl 46 3).trans (zP [2,5] 1 (by simp) (by simp) (by simp) (by simp[hLl])),?_⟩;simp -implicitDefEqProofs;refine qE (zJv L) (by simp) (by simp) ?_;simp -implicitDefEqProofs;have hWl:(zAj L).length=(zEG L).length:=by simp[zEG]
     refine⟨[(7,.ptr 0 0),(123,.clo 154 [] [.rptr [.sl L.length (jZ L)]])],2,(zAj L).map (fun t=>[zDX t]),
      fun i=>[.box [.row 1 i],.row false 46 3 i (zJ ((zEG L).take i))],
      154,[],[.rptr [.sl L.length (jZ L)]],by simp,zQX,zTa _ _ rfl (by omega),zIO (τ:=[]) (by simp) (by simp) (by simp) (by simp) (by simp),by omega,?_,by simp,by simp,?_,?_⟩
     ·intro i hi;simp
     ·intro i hi b' M r r';simp only[jB2]at hi;have hlx:i≤(zEG L).length:=by omega
      have htk:zJ ((zEG L).take (i+1))=zJ ((zEG L).take i)++zC (.mk 2 0 (zAj L)[i]):=by rw[jA9 (by omega),zAI];simp[zEG,zC]
      simp -implicitDefEqProofs [zGf,zDU,jAx hlx,(zOO hlx).1,(zOO hlx).2];refine⟨⟨by simp[maxLen]; omega,by omega⟩,by omega,?_⟩;refine⟨qG [],_,?_,rfl⟩;exact zP [0,1,2] 0 (by decide) (by simp) (by simp[htk,zC,Val.k,Val.n,Val.kids]) (by simp)
     ·have htk:(zEG L).take (zAj L).length=zEG L:=jAk (by omega);simp -implicitDefEqProofs [htk];exact zL [1] 0 (by simp) (by simp) (by simp[hWl]) (by simp[hWl])
   ·have hsv:zF7 D.kind L=jX 0 L:=by simp[zF7,e5]
    rw[hsv]at hW ⊢;refine jR (S:=Nat) (fun i=>[(2,int m),(3,.ptr 0 0),(7,.ptr 2 0),(12,.ptr 3 0),(14,.row 5 i),(83,.sl D.slots.length (yN D.slots)),(84,int D.slots.length),(85,int i)])
     (fun i=>[.box (zK p),.box (zM (.mk k id kids)),.box [.row 4 (jX 0 (L.take i)).length],.box (zF D),.row false 46 3 (jX 0 (L.take i)).length (zJ ((jX 0 L).take (jX 0 (L.take i)).length)),.row false 44 1 i (jZ (L.take i))])
     (fun i=>i≤D.slots.length) (fun i=>D.slots.length-i) 0 (by simp)
     (((zA9 (l:=2) (o:=0) rfl rfl 46 3).trans (zAG (t:=14) (by simp) 44 1)).trans (zP [0,1,2,3,4,5] 0 (by simp) (by simp) (by simp[zK,zM,zF,jX]) (by simp))) ?_
    intro i hi;by_cases h:i<D.slots.length
    ·have hil:i<L.length:=by omega
     have hl6:=e6 D.slots[i] (jA3 h);have hc:=hih D.slots[i] (jA3 h);have hLi:=hLg i h;rw[jA2 hil]at hLi;rw[←jAs hLi]at hc hl6;simp -implicitDefEqProofs [h,jV h,yK,zK];refine jO hc [] (by simp) (by simp) (by simp[zK,zM]) ?_;simp -implicitDefEqProofs [zDU];refine⟨⟨by simp[maxLen]; omega,by omega⟩,?_⟩;have hcs:=zOY hil;have hc1:(jX 0 (L.take (i+1))).length=(jX 0 (L.take i)).length+L[i].length:=by rw[hcs]; simp
     have htL:jZ (L.take (i+1))=jZ (L.take i)++[.sl L[i].length (zJ L[i])]:=by rw[jA9 hil,zGV]; rfl
     refine jR (S:=Nat) (fun k=>[(2,int m),(3,.ptr 0 0),(7,.ptr 2 0),(12,.ptr 3 0),(14,.row 5 (i+1)),(15,int i),(83,.sl D.slots.length (yN D.slots)),(84,int D.slots.length),(85,int i),(99,.sl L[i].length (zJ L[i])),(100,int L[i].length),(101,int k)])
      (fun q=>[.box (zK p),.box (zM (.mk k id kids)),.box [.row 4 ((jX 0 (L.take i)).length+q)],.box (zF D),.row false 46 3 ((jX 0 (L.take i)).length+q) (zJ ((jX 0 L).take ((jX 0 (L.take i)).length+q))),.row false 44 1 (i+1) (jZ (L.take (i+1)))])
      (fun q=>q≤L[i].length) (fun q=>L[i].length-q) 0 (by simp)
      (zP [0,1,2,3,4,5] 1 (by simp) (by simp) (by simp[zK,zM,zF,htL]) (by simp)) ?_
     intro q hq;by_cases hql:q<L[i].length
     ·obtain⟨htk,hle⟩:=zOZ hil hql;have hlx:(jX 0 (L.take i)).length+q≤(jX 0 L).length:=by omega
      have hcast:(((jX 0 (L.take i)).length:Int)+(q:Int)).toNat=(jX 0 (L.take i)).length+q:=by omega
      have hwq:=zAz q (by omega);simp -implicitDefEqProofs [hql,qY hql,zF,e5,zGf,zDU,jAx hlx,(zOO hlx).1,(zOO hlx).2,hcast,hwq];refine⟨⟨by simp[maxLen]; omega,by omega⟩,⟨by omega,by omega⟩,?_⟩;exact zO (q+1) hql (by omega) (zP [0,1,2,3,4,5] 0 (by simp) (by simp) (by simp[zK,zM,zF,e5,htk,zC,Val.k,Val.n,Val.kids,jBh]) (by simp[hwq]))
     ·have hqq:q=L[i].length:=by omega
      subst hqq;have hwi:=zAz i (by omega);simp -implicitDefEqProofs;exact zO (i+1) h (by omega) (zP [0,1,2,3,4,5] 0 (by simp) (by simp) (by simp[zK,zM,zF,hc1]) (by simp[hwi]))
    ·have hi:i=D.slots.length:=by omega
     subst hi;have htk:L.take D.slots.length=L:=jAk (by omega);simp -implicitDefEqProofs [htk,e5,zF];exact zL [4] 0 (by simp) (by simp) (by simp) (by simp)
def qAq:K:=G [kO 3 0,kO 4 1,kMn 6,kMi 7 0] (Z (G [M 11 2,kBi 12 11 0 .lss,M 13 12,T 13 false (M 14 2),T 13 false (kBi 15 14 64 .gtr),kPt 16 13 15] (Y 16 (G [kMn 6,kMi 7 1] kr) ks)) (Z (G [J 18 3 2,J 19 4 5,M 20 2,kC 21 75 [(kt 18),(kt 19),(kt 20)],M 17 21,kE 22 17 0,kE 23 17 1,kZ 8 [ki,ki],S 8 22 2,M 9 23] (G [M 24 9,kQi 25 24 0 true] (Y 25 (G [M 26 9,kMn 6,M 7 26] kr) ks))) (G [J 27 3 2,J 28 4 5,M 29 2,kC 30 76 [(kt 27),(kt 28),(kt 29)],M 10 30] (G [M 31 10,kC 32 77 [(kt 31),(.func 78)]] (G [M 33 10,M 6 33,kMi 7 0] kr)))))
theorem qHY:zQ prog Tryz.f34.ntmps (Tryz.f34.body.getD .skip)=some qAq.erase:=by kernel_rfl
@[simp] theorem qLD:zB prog 34=true:=by kernel_rfl
def zAy (p:Prg)(t:Typ)(m:Int):List Val×Int:=if m<0∨64<m then ([],1) else if (size p m t).e≠0 then ([],(size p m t).e) else (zEm zRg (zBt p m 24 t),0)
theorem zVd (p:Prg)(hs:Sml p)(t:Typ)(m:Int):Ret prog 34 [.agg (zK p),.agg (zM t),int m] [] (.tup [.sl (zAy p t m).1.length (zJ (zAy p t m).1),int (zAy p t m).2]) []:=by
 refine zH Tryz.func34 rfl qHY (rs:=[.slot 6,.slot 7]) (by kernel_rfl) ?_;unfold qAq;by_cases h1:m<0
 ·have e:zAy p t m=([],1):=by simp[zAy,h1]
  simp -implicitDefEqProofs [h1,e];exact zA 1 (by simp)
 by_cases h2:64<m
 ·have e:zAy p t m=([],1):=by simp[zAy,h2]
  simp -implicitDefEqProofs [h1,h2,e];exact zA 1 (by simp)
 simp -implicitDefEqProofs [h1,h2,zK,zM];refine qE (zRO p hs m (by omega) t) (by simp[zK,zM]) (by simp[szR]) ?_;by_cases h3:(size p m t).e=0
 ·have e:zAy p t m=(zEm zRg (zBt p m 24 t),0):=by simp[zAy,h1,h2,h3]
  simp -implicitDefEqProofs [szR,h3,e];refine jO (qCd p hs m (by omega) 24 t h3) [] (by simp) (by simp) (by simp[zK,zM]) ?_;simp -implicitDefEqProofs;have hl:=zDO p m (by omega) 24 t h3;have hle:=zBH p m (by omega) 24 t h3;refine jO (zQ7 (zBt p m 24 t) (by omega)) [3] (by simp) (by simp) (by simp) ?_;simp -implicitDefEqProofs;exact zA 1 (by simp[zEm])
 ·have e:zAy p t m=([],(size p m t).e):=by simp[zAy,h1,h2,h3]
  simp -implicitDefEqProofs [szR,h3,e];exact zA 1 (by simp)
def zGG (p:Prg)(a b:List Id)(v:Val)(fuel:Int):Bool:=decide ((jJ p a v fuel).2.2=(jJ p b v fuel).2.2)&&decide (zCu (jJ p b v fuel).1 (jJ p a v fuel).1=0)
def zPj (p:Prg)(all:List (List Id))(v:Val)(fuel:Int):Option (List Id):=all.tail.find? fun q=>!zGG p (all.headD []) q v fuel
def zEQ (p:Prg)(all:List (List Id))(fuel:Int):List Val→Option (Val×List Id)
 | []=>none
 | v::l=>match zPj p all v fuel with
  | some q=>some (v,q)
  | none=>zEQ p all fuel l
def zER (p:Prg)(a b:Id)(most fuel:Int):Val×List (List Id)×Int :=
 if zBr p a=true∧zBr p b=true then
  if (zAy p (jP a) most).2≠0 then (vz,[],(zAy p (jP a) most).2)
  else match zEQ p (zA0 p a b) fuel (zAy p (jP a) most).1 with
   | some x=>(x.1,[(zA0 p a b).headD [],x.2],19)
   | none=>(vz,[],0)
 else (vz,[],6)
def zIF (r:Val×List (List Id)×Int):A:=.tup [.agg (zC r.1),.sl r.2.1.length (jU r.2.1),int r.2.2]
theorem zOK (p:Prg)(all:List (List Id))(fuel:Int){l:List Val}{i:Nat}(h:i<l.length):zEQ p all fuel (l.drop i)=match zPj p all l[i] fuel with
 | some q=>some (l[i],q)
 | none=>zEQ p all fuel (l.drop (i+1)):=by
 rw[jAv h]; rfl
def qAb:K:=G [kO 5 0,kO 6 1,kO 7 2,kZ 10 [ki,ki,kl],kMn 11,kMi 12 0] (G [J 26 5 2,J 27 6 3,J 28 7 3,kC 29 20 [(kt 26),(kt 27),(kt 28)],M 25 29,kE 30 25 0,kE 31 25 1,M 13 30,M 14 31] (Z (G [M 32 14,kQi 33 32 0 true] (Y 33 (G [kb 34 [ki,ki,kl] [],M 35 14,S 10 34 3,kMn 11,M 12 35] kr) ks)) (G [J 37 5 2,J 38 6 3,kb 39 kz2 [(0,1,(kc 3)),(1,3,(kt 38))],M 40 3,kC 41 34 [(kt 37),(kt 39),(kt 40)],M 36 41,kE 42 36 0,kE 43 36 1,M 15 42,M 14 43] (Z (G [M 44 14,kQi 45 44 0 true] (Y 45 (G [kb 46 [ki,ki,kl] [],M 47 14,S 10 46 3,kMn 11,M 12 47] kr) ks)) (Z (G [M 48 15,kN 49 48,kMi 50 0] (K.block 0 (K.loop (G [kB 51 50 49 .lss] (Z (Y 51 ks (K.exit 0)) (Z (K.block 1 (G [kX 52 48 50 3,J 53 52 3,kZ 17 [ki,ki,kl],S 17 53 3] (G [kZ 18 [ki,ki,kl]] (G [kMi 19 0] (G [M 54 13,kN 55 54,kMi 56 0] (K.block 2 (K.loop (G [kB 57 56 55 .lss] (Z (Y 57 ks (K.exit 2)) (Z (K.block 3 (G [M 58 56,kX 59 54 56 1,L 60 59 1,M 20 58,M 21 60] (G [J 62 5 2,M 63 21,J 64 17 3,M 65 4,kC 66 45 [(kt 62),(kt 63),(kt 64),(kt 65)],M 61 66,kE 67 61 0,kE 68 61 1,kE 69 61 2,kZ 22 [ki,ki,kl],S 22 67 3,M 23 68,M 24 69] (G [M 70 20,kQi 71 70 0 false] (Y 71 (K.ops [J 72 22 3,M 73 24,S 18 72 3,M 19 73]) (G [M 74 24,M 75 19,kQ 76 74 75 true,M 77 76,T 77 false (J 78 22 3),T 77 false (J 79 18 3),T 77 false (kC 80 60 [(kt 78),(kt 79)]),T 77 false (kQi 81 80 0 true),kPt 82 77 81] (Y 82 (Z (K.dops [(0,0,J 83 17 3),(1,0,M 84 13),(2,2,kXi 85 84 1 0),(3,2,L 86 85 1),(4,0,M 87 21),(5,0,kd 88 28 1 2 [kl,kl] [(0,1,(kt 86)),(1,1,(kt 87))]),(6,0,
 S 10 83 3),(7,0,M 11 88),(8,0,kMi 12 19)]) kr) ks))))))) (K.ops [kBi 89 56 1 .add,M 56 89]))))))))))) (K.ops [kBi 90 50 1 .add,M 50 90]))))))) (G [kb 91 [ki,ki,kl] [],S 10 91 3,kMn 11,kMi 12 0] kr))))))
def qJi:Nat→Option (List (Nat×Nat)):=fun r=>match r with | 19=>some [(0,0),(1,0),(2,2),(3,2),(4,0),(5,0),(6,0),(7,0),(8,0)] | _=>none
theorem qHI:qD prog Tryz.f26.ntmps qJi (Tryz.f26.body.getD .skip)=some qAb.erase:=by kernel_rfl
@[simp] theorem qL0:zB prog 26=true:=by kernel_rfl
theorem zV3 {p:Prg}{hs:List Hd}(hf:Fit p hs)(hsm:Sml p)(a b:Id)(h64:(zA0 p a b).length≤64)(hql:∀q∈zA0 p a b,q.length≤1000000)(most fuel:Int)(h0 : -90000≤fuel)(h1:fuel≤90000)
 (hv:∀v∈(zAy p (jP a) most).1,zW v≤256∧yV v≤24) :
 Ret prog 26 [.agg (zK p),.agg (zG a),.agg (zG b),int most,int fuel] [] (zIF (zER p a b most fuel)) []:=by
 have hP:=eP p;have hpa:=zKv hf a b h64;refine qP Tryz.func26 rfl qHI (rs:=[.cell 10 3 true,.slot 11,.slot 12]) (by kernel_rfl) ?_;unfold qAb;simp -implicitDefEqProofs [hP,zG];refine qE hpa (by simp[hP,zG]) (by unfold zDL; split<;>simp) ?_;by_cases hst:zBr p a=true∧zBr p b=true
 ·have hpr:zDL p a b=.tup [.sl (zA0 p a b).length (jU (zA0 p a b)),int 0]:=by unfold zDL; rw[if_pos hst]
  rw[hpr];have hval:=zVd p hsm (jP a) most;simp -implicitDefEqProofs;refine qE hval (by simp[hP,zG,zM,jP,Typ.k,Typ.id,Typ.kids]) (by simp) ?_;by_cases he:(zAy p (jP a) most).2=0
  ·have hres:zER p a b most fuel=match zEQ p (zA0 p a b) fuel (zAy p (jP a) most).1 with
    | some x=>(x.1,[(zA0 p a b).headD [],x.2],19)
    | none=>(vz,[],0):=by
    unfold zER; rw[if_pos hst,if_neg (by simp[he])]
   rw[hres,he];generalize (zAy p (jP a) most).1=L at *
   generalize zA0 p a b=all at *
   obtain⟨q0,hq0⟩:∃q0,q0=all.headD []:=⟨_,rfl⟩;have hdf:∀v,zPj p all v fuel=all.tail.find? fun q=>!zGG p q0 q v fuel:=fun v=>by rw[hq0]; rfl
   rw[←hq0];rw[←hq0]at hres;have hvz:zC vz=[int 0,int 0,.sl 0 []]:=by simp[zC,vz,Val.k,Val.n,Val.kids]
   simp -implicitDefEqProofs;intro hmx;refine jR (S:=Nat) (fun i=>[(4,int fuel),(5,.ptr 0 0),(10,.ptr 1 0),(13,.sl all.length (jU all)),(48,.sl L.length (zJ L)),(49,int L.length),(50,int i)]) (fun i=>[.box (zK p),.box (zC vz)])
    (fun i=>i≤L.length∧zEQ p all fuel L=zEQ p all fuel (L.drop i)) (fun i=>L.length-i) 0 ⟨by omega,by simp⟩
    (zP [0,3] 0 (by simp) (by decide) (by simp[hP,hvz]) (by simp)) ?_
   rintro i ⟨hi,hag⟩;by_cases h:i<L.length
   ·have hw:=qC h hmx;have hdr:=zOK p all fuel h;have hvi:=hv L[i] (jA3 h);have hcd:=qY h;have hLne:¬L=[]:=fun e=>by rw[e]at h; simp at h
    generalize L[i]=v at hdr hvi hcd;simp -implicitDefEqProofs [h,hP,hvz,hcd,hLne];intro hma;refine jR (S:=Nat) (fun k=>[(4,int fuel),(5,.ptr 0 0),(10,.ptr 1 0),(13,.sl all.length (jU all)),(48,.sl L.length (zJ L)),(49,int L.length),(50,int i),(17,.ptr 2 0),(18,.ptr 3 0),(19,int (if k=0 then 0 else (jJ p q0 v fuel).2.2)),(54,.sl all.length (jU all)),(55,int all.length),(56,int k)])
     (fun k=>[.box (zK p),.box (zC vz),.box (zC v),.box (zC (if k=0 then vz else (jJ p q0 v fuel).1))])
     (fun k=>k≤all.length∧∀j,0<j→j<k→zGG p q0 (all.getD j []) v fuel=true) (fun k=>all.length-k) 0 ⟨by omega,fun j _ hj=>by omega⟩
     (zP [0,1,2,3] 0 (by simp) (by decide) (by simp[hP,zC,vz,Val.k,Val.n,Val.kids]) (by simp)) ?_
    rintro k ⟨hk,hsame⟩;by_cases hk2:k<all.length
    ·have hfo:=zMJ hf all[k] (hql _ (jA3 hk2)) v hvi fuel h0 h1;have hwk:=qC hk2 hma;have hpd:=zDr hk2;have hane:¬all=[]:=fun e=>by rw[e]at hk2; simp at hk2
     have hgd:all.getD k []=all[k]:=by rw[jBk,jA2 hk2]; rfl
     unfold zCE at hfo;have hgd2:all[k]?.getD []=all[k]:=by rw[jA2 hk2]; rfl
     by_cases hk0:k=0
     ·subst hk0;have hhd:q0=all[0]:=by rw[hq0]; exact by cases all with | nil=>simp at hk2 | cons x l=>rfl
      rw[hhd];simp -implicitDefEqProofs [hP,hvz,hk2,hpd,hane,zC];refine qE hfo (by simp[hP,zC]) (by simp[zC]) ?_;simp -implicitDefEqProofs [zC];exact zO 1 ⟨hk2,fun j hj0 hj1=>by omega⟩ (by omega) (zP [0,1,2,3] 0 (by simp) (by decide) (by simp[hP,zC,vz,Val.k,Val.n,Val.kids,hhd]) (by simp[hhd,show IntKind.i64.wrap 1=1 from rfl]))
     ·have hk0':¬(k:Int)=0:=by omega
      simp -implicitDefEqProofs [hP,hvz,hk2,hpd,hane,zC,hk0,hk0'];refine qE hfo (by simp[hP,zC]) (by simp[zC]) ?_;simp -implicitDefEqProofs [zC,hk0,hk0'];have hse:zGG p q0 all[k] v fuel=(decide ((jJ p q0 v fuel).2.2=(jJ p all[k] v fuel).2.2)&&decide (zCu (jJ p all[k] v fuel).1 (jJ p q0 v fuel).1=0)):=rfl;have hcm:=zKp (jJ p all[k] v fuel).1 (jJ p q0 v fuel).1;have hdiff:zGG p q0 all[k] v fuel=false→zEQ p all fuel L=some (v,all[k]):=fun hs=>by
       have hd:zPj p all v fuel=some all[k]:=by
        rw[hdf,List.find?_eq_some_iff_getElem];refine⟨by simp[hs],k-1,by simp; omega,?_,fun j hj=>?_⟩
        ·simp only[List.getElem_tail]
         congr 1; omega
        ·have:=hsame (j+1) (by omega) (by omega);rw[jBk,jA2 (by omega),jBg]at this;simp only[List.getElem_tail];simp[this]
       rw[hag,hdr,hd]
      have hh0:0<all.length:=by omega
      have hpd0:=zDr hh0;have hhd:q0=all[0]:=by rw[hq0]; cases all with | nil=>simp at hk2 | cons x l=>rfl
      rw[List.drop_zero]at hpd0;generalize hx0:(jJ p q0 v fuel).1=x0 at *
      generalize he0:(jJ p q0 v fuel).2.2=e0 at *
      generalize hxk:(jJ p all[k] v fuel).1=xk at *
      generalize hek:(jJ p all[k] v fuel).2.2=ek at *
      by_cases hee:ek=e0
      ·by_cases hcc:zCu xk x0=0
       ·have hs:zGG p q0 all[k] v fuel=true:=by rw[hse]; simp[hee,hcc]
        simp -implicitDefEqProofs [hee];refine qE hcm (by simp[zC]) (by simp) ?_;simp -implicitDefEqProofs [hcc];exact zO (k+1) ⟨hk2,fun j hj0 hj1=>by
         by_cases e:j=k
         ·subst e; first | (rw[hgd]; exact hs) | (rw[hgd2]; exact hs)
         ·exact hsame j hj0 (by omega)⟩ (by omega) (zP [0,1,2,3] 0 (by simp) (by decide) (by simp[hP,zC,vz,Val.k,Val.n,Val.kids,hk0,hx0,hvz]) (by simp[hk0,hwk,he0]))
       ·have hs:=hdiff (by rw[hse]; simp[hcc]);rw[hs];simp -implicitDefEqProofs [hee];refine qE hcm (by simp[zC]) (by simp) ?_;simp -implicitDefEqProofs [hcc,hane,hh0,hpd0];exact zA 0 (by simp[zIF,zC,zFb,hhd])
      ·have hs:=hdiff (by rw[hse]; simp[Ne.symm hee]);rw[hs];simp -implicitDefEqProofs [hee,hane,hh0,hpd0];exact zA 0 (by simp[zIF,zC,zFb,hhd])
    ·have hke:k=all.length:=by omega
     subst hke;have hd:zPj p all v fuel=none:=by
      rw[hdf,jD3];intro q hq;obtain⟨j,hj,rfl⟩:=jAo hq;have hj2:j+1<all.length:=by simp at hj; omega
      have:=hsame (j+1) (by omega) hj2;rw[jBk,jA2 hj2,jBg]at this;simp only[List.getElem_tail];simp[this]
     rw[hd]at hdr;simp -implicitDefEqProofs [hP,hvz];exact zO (i+1) ⟨h,by rw[hag,hdr]⟩ (by omega) (zP [0,1] 0 (by simp) (by decide) (by simp[hP,hvz]) (by simp[hw]))
   ·have hie:i=L.length:=by omega
    subst hie;rw[List.drop_length]at hag;simp only[zEQ]at hag;rw[hag];simp -implicitDefEqProofs [hP,hvz];exact zA 0 (by simp[zIF,hvz])
  ·have hres:zER p a b most fuel=(vz,[],(zAy p (jP a) most).2):=by unfold zER; rw[if_pos hst,if_pos he]
   rw[hres];simp -implicitDefEqProofs [he];exact zA 0 (by simp[zIF,zC,vz,Val.k,Val.n,Val.kids])
 ·have hpr:zDL p a b=.tup [.sl 0 [],int 6]:=by unfold zDL; rw[if_neg hst]
  have hres:zER p a b most fuel=(vz,[],6):=by unfold zER; rw[if_neg hst]
  rw[hpr,hres];simp -implicitDefEqProofs;exact zA 0 (by simp[zIF,zC,vz,Val.k,Val.n,Val.kids])
inductive OneOf:List Val→List (List Val)→Prop
 | nil:OneOf [] []
 | cons {v:Val} {x:List Val} {t:List Val} {l:List (List Val)} (h:v∈x) (ht:OneOf t l):OneOf (v::t) (x::l)
theorem zPx:∀(l acc:List (List Val)) (t:List Val),t∈l.foldl zCk acc→∃h∈acc,∃s,t=h++s∧OneOf s l
 | [],acc,t,ht=>⟨t,ht,[],by simp,.nil⟩
 | a::l,acc,t,ht=>by obtain⟨h,hh,s,rfl,hs⟩:=zPx l (zCk acc a) t ht;simp only[zCk,List.mem_flatMap,jAn]at hh;obtain⟨g,hg,x,hx,rfl⟩:=hh;exact⟨g,hg,x::s,by simp,.cons hx hs⟩
theorem zQo {l:List (List Val)}{t:List Val}(h:t∈zAj l):OneOf t l:=by obtain⟨g,hg,s,rfl,hs⟩:=zPx l [[]] t h;simp at hg; subst hg; simpa using hs
inductive BndB (N:Nat):List Sz→List (List Val)→Prop
 | nil:BndB N [] []
 | cons {k:Sz} {x:List Val} {z:List Sz} {l:List (List Val)} (h:∀v∈x,(zW v:Int)≤k.b∧yV v≤N) (h0:0≤k.b) (hz:BndB N z l):BndB N (k::z) (x::l)
def zMr:List Sz→Int
 | []=>0
 | k::z=>k.b+zMr z
theorem zOn {N:Nat}:∀{z:List Sz} {l:List (List Val)} {t:List Val},BndB N z l→OneOf t l→(qS t:Int)≤zMr z∧yI t≤N
 | _,_,_,.nil,.nil=>by simp[qS,yI,zMr]
 | _,_,_,.cons h _ hz,.cons hv ht=>by have h1:=zOn hz ht;have h2:=h _ hv;simp only[qS,yI,zMr];omega
theorem zX0:∀(z:List Sz) (a b:Int),(zEw a b z).e=0→(zEw a b z).b=b+zMr z
 | [],a,b,_=>by simp[zEw,zMr]
 | k::z,a,b,h=>by
  simp only[zEw]at h⊢;split at h
  ·simp at h
  ·rename_i hn;rw[if_neg hn,zX0 z _ _ h];simp only[zMr]; omega
theorem zSA:∀(z:List Sz) (a b:Int),b≤(zCG a b z).b∧∀k∈z,1+k.b≤(zCG a b z).b
 | [],a,b=>by simp[zCG]
 | k::z,a,b=>by
  have:=zSA z (a+k.a) (max b (1+k.b));simp only[zCG];refine⟨by omega,fun x hx=>?_⟩;rcases jA5.1 hx with rfl | hx
  ·omega
  ·exact this.2 x hx
theorem zM1 {N:Nat}:∀{z:List Sz} {l:List (List Val)} (i:Int),BndB N z l→∀v∈jX i l,∃k∈z,(zW v:Int)≤1+k.b∧yV v≤N+1
 | _,_,i,.nil,v,h=>by simp[jX]at h
 | _,_,i,.cons (k:=k) h h0 hz,v,hv=>by
  simp only[jX,jAe,jAn]at hv;rcases hv with ⟨x,hx,rfl⟩ | hv
  ·have:=h x hx;refine⟨k,by simp,?_⟩;have e1:zW (.mk 3 i [x])=1+qS [x]:=zCm _;have e2:yV (.mk 3 i [x])=yI [x]+1:=zCf _;have e3:qS [x]=zW x+0:=by simp only[qS]
   have e4:yI [x]=max (yV x) 0:=by simp only[yI]
   rw[e1,e2,e3,e4];omega
  ·obtain⟨k',hk',h'⟩:=zM1 (i+1) hz v hv;exact⟨k',by simp[hk'],h'⟩
theorem zS8 {N:Nat}{k:Sz}{x:List Val}(h:∀v∈x,(zW v:Int)≤k.b∧yV v≤N)(h0:0≤k.b):∀j,BndB N (List.replicate j k) (List.replicate j x)∧zMr (List.replicate j k)=j*k.b
 | 0=>⟨.nil,by simp[zMr]⟩
 | j+1=>by
  have:=zS8 h h0 j;refine⟨.cons h h0 this.1,?_⟩;simp only[List.replicate_succ,zMr,this.2];have:((j+1:Nat):Int)*k.b=j*k.b+k.b:=by rw[Int.natCast_add,Int.add_mul]; simp
  omega
theorem zSP {k:Sz}(h:(zCj k).e=0)(ha:(zCj k).a≠0):(zCj k).b=k.b:=by
 unfold zCj at *
 split at h
 ·rename_i h1; simp at h; exact(h1 h).elim
 ·split at h
  ·simp at h
  ·rename_i h1 h2;rw[if_neg h1,if_neg h2]at ha ⊢;simp only at ha ⊢;rw[if_neg ha]
theorem zMx {p:Prg}{m:Int}{n:Nat}(hm:0≤m∧m≤64)(ih:∀t,(jW p m n t).e=0→∀v∈zBt p m n t,(zW v:Int)≤(jW p m n t).b∧yV v≤n):∀l:List Slt,(∀s∈l,(jW p m n s.typ).e=0) →
 BndB n (l.map fun s=>jW p m n s.typ) (l.map fun s=>zBt p m n s.typ)
 | [],_=>.nil
 | s::l,h=>.cons (ih _ (h s (by simp))) ((zBH p m hm n s.typ) (h s (by simp))).2.2.1 (zMx hm ih l fun x hx=>h x (by simp[hx]))
theorem zKz (p:Prg)(m:Int)(hm:0≤m∧m≤64):∀(n:Nat) (t:Typ),(jW p m n t).e=0→∀v∈zBt p m n t,(zW v:Int)≤(jW p m n t).b∧yV v≤n
 | 0,t,_,v,hv=>by simp[zBt]at hv
 | n+1,t,h,v,hv=>by
  have ih:=zKz p m hm n;have hlen:=zDO p m hm.1 (n+1) t h;have hpos:0<(zBt p m (n+1) t).length:=List.length_pos_of_mem hv;have ha:(jW p m (n+1) t).a≠0:=by omega
  clear hlen hpos;unfold jW at h ha ⊢;unfold zBt at hv;by_cases hvt:validT p t=false
  ·rw[if_pos hvt]at h; simp at h
  ·rw[if_neg hvt]at h ha ⊢;by_cases h0:t.k=0
   ·rw[if_pos h0]at hv ⊢;simp only[zDn,jAn]at hv;obtain⟨i,_,rfl⟩:=hv;simp[zCm,zCf,Val.kids,qS,yI]
   ·rw[if_neg h0]at h ha hv ⊢;by_cases h1:t.k=1
    ·rw[if_pos h1]at hv ⊢;simp only[jA5,jC5,or_false]at hv;rcases hv with rfl | rfl<;>simp[zCm,zCf,Val.kids,qS,yI]
    ·rw[if_neg h1]at h ha hv ⊢;by_cases h2:t.k=2
     ·rw[if_pos h2]at h ha hv ⊢;rw[zSP h ha];have hfe:=zG7 h;have ih2:=ih (t.kids.headD Typ.zero);have hok:=zBH p m hm n (t.kids.headD Typ.zero);generalize jW p m n (t.kids.headD Typ.zero)=kz at *
      generalize zBt p m n (t.kids.headD Typ.zero)=X at *
      have hle:=hfe.1;have hke:kz.e=0:=by
       unfold zBA at hle;split at hle
       ·rename_i hh; simpa using hle
       ·rename_i hh; simpa using hh
      obtain⟨_,_,b0,b1⟩:=hok hke;simp only[zOg,List.mem_flatMap,jAn,jCj]at hv;obtain⟨j,hj,tt,htt,rfl⟩:=hv;have hr:=zS8 (N:=n) (fun v hv=>ih2 hke v hv) b0 j;have ho:=zOn hr.1 (zQo htt);rw[hr.2]at ho;have hj2:j=0∨(j=1∧1≤m)∨(j=2∧2≤m):=by split at hj<;>omega
      simp only[zCm,zCf,Val.kids];unfold zBA;rw[if_neg (by simp[hke])];refine⟨?_,by omega⟩;rcases hj2 with rfl | ⟨rfl,hj2⟩ | ⟨rfl,hj2⟩
      ·split
       ·simp only; omega
       ·split<;>simp only<;>omega
      ·rw[if_neg (by omega)];split<;>simp only<;>omega
      ·rw[if_neg (by omega),if_neg (by omega)];simp only; omega
     ·rw[if_neg h2]at h ha hv ⊢;rw[zSP h ha];have e1:=(zG7 h).1;have e3:zFg ((dfn p t.id).slots.map fun s=>jW p m n s.typ)=0:=by
       by_cases hz:zFg ((dfn p t.id).slots.map fun s=>jW p m n s.typ)=0
       ·exact hz
       ·exact absurd e1 (by simp[zAx,hz])
      have hb:=zMx hm ih (dfn p t.id).slots (fun s hs=>zCN e3 _ (jAn.2 ⟨s,hs,rfl⟩));have hvt2:validT p t=true:=by simpa using hvt
      have e5:=zHA hvt2 h0 h1 h2;unfold zF7 at hv;rcases e5 with e5 | e5
      ·rw[if_pos e5]at hv;have ee:zAx (decide ((dfn p t.id).kind=0)) ((dfn p t.id).slots.map fun s=>jW p m n s.typ)=zEw 1 1 ((dfn p t.id).slots.map fun s=>jW p m n s.typ):=by simp[zAx,e3,e5]
       rw[ee]at e1 ⊢;rw[zX0 _ _ _ e1];simp only[zEG,jAn]at hv;obtain⟨tt,htt,rfl⟩:=hv;have ho:=zOn hb (zQo htt);simp only[zCm,zCf,Val.kids];omega
      ·rw[if_neg (by omega),if_pos e5]at hv;have ee:zAx (decide ((dfn p t.id).kind=0)) ((dfn p t.id).slots.map fun s=>jW p m n s.typ)=zCG 0 1 ((dfn p t.id).slots.map fun s=>jW p m n s.typ):=by simp[zAx,e3,e5]
       rw[ee];obtain⟨k,hk,h3,h4⟩:=zM1 0 hb v hv;have:=(zSA ((dfn p t.id).slots.map fun s=>jW p m n s.typ) 0 1).2 k hk;omega
theorem zO6 (p:Prg)(t:Typ)(m:Int):∀v∈(zAy p t m).1,zW v≤256∧yV v≤24:=by
 intro v hv;unfold zAy at hv;split at hv
 ·simp at hv
 ·rename_i hm;split at hv
  ·simp at hv
  ·rename_i he;have he':(size p m t).e=0:=by simpa using he
   simp only at hv;have hv2:v∈zBt p m 24 t:=(List.mergeSort_perm _ _).mem_iff.1 hv;have:=zKz p m (by omega) 24 t he' v hv2;have hb:=(zBH p m (by omega) 24 t he').2.2.2;omega
def iD (n:Int):Id:=⟨0,1,n⟩
def exF (at_ place rec slot:Int):Exp:=.mk (iD at_) 8 place (iD rec) .zero [.mk (iD (at_+1)) 2 0 (iD slot) .zero [] []] []
def exS (i:Int)(nm:ByteArray)(pl:Int):Slt:=⟨iD i,nm,.zero,0,pl⟩
def qBd:Exp:=.mk (iD 20) 7 0 (iD 11) .zero [exF 21 0 10 4,.mk (iD 23) 0 0 .zero .zero [] []] []
def qBf:Exp:=.mk (iD 24) 4 0 .zero .zero [exF 25 0 11 5,exF 27 1 11 5] []
def qBe:Exp:=.mk (iD 29) 4 2 .zero .zero [exF 30 0 10 6,exF 16 0 10 6] []
def zNP (i:Int)(nm:ByteArray)(s:Int)(a b:Int)(e:Exp):Dfn:=⟨iD i,5,iD 0,nm,[⟨iD s,⟨#[97]⟩,jP (iD a),0,0⟩],jP (iD b),e,0,[]⟩
def zKf (i:Int)(nm:ByteArray)(ss:List Slt):Dfn:=⟨iD i,0,iD 0,nm,ss,.zero,.zero,0,[]⟩
def zAt:Prg:=⟨[⟨iD 0,⟨#[109]⟩,[],[iD 1,iD 2,iD 3,iD 10,iD 11,iD 12]⟩],
 [zNP 1 ⟨#[112]⟩ 4 10 11 qBd,zNP 2 ⟨#[113]⟩ 5 11 12 (.mk (iD 18) 7 0 (iD 12) .zero [qBf] []),zNP 3 ⟨#[114]⟩ 6 10 12 (.mk (iD 19) 7 0 (iD 12) .zero [qBe] []),
  zKf 10 ⟨#[65]⟩ [exS 7 ⟨#[120]⟩ 0],zKf 11 ⟨#[66]⟩ [exS 8 ⟨#[120]⟩ 0,exS 9 ⟨#[121]⟩ 1],zKf 12 ⟨#[67]⟩ [exS 13 ⟨#[120]⟩ 0]]⟩
def zFH (n:Int):Val:=.mk 2 0 [.mk 0 n []]
theorem zKW {rec slot:Int}{at_:Int}{j:Nat}(d:Dfn)(hd:qQ zAt.defs (iD rec)=some d)(hk:d.kind=0)(hj:j<d.slots.length)(ht:d.slots[j].typ=zAU):WE zAt [⟨iD slot,0,jP (iD rec)⟩] (exF at_ j rec slot) zAU:=by have:=WE.field (p:=zAt) [⟨iD slot,0,jP (iD rec)⟩] (iD at_) (iD rec) .zero (.mk (iD (at_+1)) 2 0 (iD slot) .zero [] []) [] d j hd hk hj (.var _ _ _ _ _ _ _ (by simp[zC7]));rw[ht]at this;exact this
def zSM:Dfn:=zKf 10 ⟨#[65]⟩ [exS 7 ⟨#[120]⟩ 0]
def zSN:Dfn:=zKf 11 ⟨#[66]⟩ [exS 8 ⟨#[120]⟩ 0,exS 9 ⟨#[121]⟩ 1]
def zW1:Dfn:=zKf 12 ⟨#[67]⟩ [exS 13 ⟨#[120]⟩ 0]
theorem qCX:qQ zAt.defs (iD 10)=some zSM:=by rfl
theorem qCY:qQ zAt.defs (iD 11)=some zSN:=by rfl
theorem qIZ:qQ zAt.defs (iD 12)=some zW1:=by rfl
theorem zRq {k:Nat}{n:Int}(h:k<(zAt.defs.map Dfn.hd).length)(hid:(zAt.defs.map Dfn.hd)[k].id=iD n)(h1:∀(j:Nat)(hj:j<k),(zAt.defs.map Dfn.hd)[j].id≠(zAt.defs.map Dfn.hd)[k].id)
 (h2:(zAt.defs.map Dfn.hd)[k].kind=0)(h3:(zAt.defs.map Dfn.hd)[k].slots.length≤6)(h4:∀s∈(zAt.defs.map Dfn.hd)[k].slots,s.typ=zAU):TyOk (zAt.defs.map Dfn.hd) 4 (jP (iD n)):=by
 rw[←hid];exact .dfn 3 k h h1 (.inl h2) h3 fun s hs=>by rw[h4 s hs]; exact .int _
theorem zHW:Fit zAt (zAt.defs.map Dfn.hd):=by
 have t10:TyOk (zAt.defs.map Dfn.hd) 4 (jP (iD 10)):=zRq (k:=3) (by decide) rfl (by decide) rfl (by decide) (by intro s hs; simp[zAt,zKf,zNP,exS,Dfn.hd]at hs; subst hs; rfl);have t11:TyOk (zAt.defs.map Dfn.hd) 4 (jP (iD 11)):=zRq (k:=4) (by decide) rfl (by decide) rfl (by decide) (by intro s hs; simp[zAt,zKf,zNP,exS,Dfn.hd]at hs; rcases hs with rfl | rfl<;>rfl);have t12:TyOk (zAt.defs.map Dfn.hd) 4 (jP (iD 12)):=zRq (k:=5) (by decide) rfl (by decide) rfl (by decide) (by intro s hs; simp[zAt,zKf,zNP,exS,Dfn.hd]at hs; subst hs; rfl);refine⟨rfl,by decide,by decide,?_,by decide,?_⟩
 ·intro d hd;simp only[zAt,jA5,jC5,or_false]at hd;rcases hd with rfl | rfl | rfl | rfl | rfl | rfl
  ·exact⟨by decide,by decide,by decide,by decide,fun s hs=>by simp[zNP]at hs; subst hs; exact t10⟩
  ·exact⟨by decide,by decide,by decide,by decide,fun s hs=>by simp[zNP]at hs; subst hs; exact t11⟩
  ·exact⟨by decide,by decide,by decide,by decide,fun s hs=>by simp[zNP]at hs; subst hs; exact t10⟩
  ·exact⟨by decide,by decide,by decide,by decide,fun s hs=>by simp[zKf,exS]at hs; subst hs; exact .int _⟩
  ·exact⟨by decide,by decide,by decide,by decide,fun s hs=>by simp[zKf,exS]at hs; rcases hs with rfl | rfl<;>exact .int _⟩
  ·exact⟨by decide,by decide,by decide,by decide,fun s hs=>by simp[zKf,exS]at hs; subst hs; exact .int _⟩
 ·intro r d hd hb;have hm:=(zAd hd).1;simp only[zAt,jA5,jC5,or_false]at hm;rcases hm with rfl | rfl | rfl | rfl | rfl | rfl
  ·show WE zAt [⟨iD 4,0,jP (iD 10)⟩] qBd (jP (iD 11));refine .record _ _ _ _ _ _ _ (by decide) zSN qCY rfl rfl fun j hj=>?_
   have:j=0∨j=1:=by simp at hj; omega
   rcases this with rfl | rfl
   ·exact zKW (j:=0) zSM qCX rfl (by decide) rfl
   ·exact .int _ _ _ _ _ _ (by decide) (by decide)
  ·show WE zAt [⟨iD 5,0,jP (iD 11)⟩] (.mk (iD 18) 7 0 (iD 12) .zero [qBf] []) (jP (iD 12));refine .record _ _ _ _ _ _ _ (by decide) zW1 qIZ rfl rfl fun j hj=>?_
   have:j=0:=by simp at hj; omega
   subst this;refine .op _ _ _ _ _ _ _ (by decide) [zAU,zAU] zAU (.arith _ (by decide) (by decide)) rfl fun j hj=>?_
   have:j=0∨j=1:=by simp at hj; omega
   rcases this with rfl | rfl
   ·exact zKW (j:=0) zSN qCY rfl (by decide) rfl
   ·exact zKW (j:=1) zSN qCY rfl (by decide) rfl
  ·show WE zAt [⟨iD 6,0,jP (iD 10)⟩] (.mk (iD 19) 7 0 (iD 12) .zero [qBe] []) (jP (iD 12));refine .record _ _ _ _ _ _ _ (by decide) zW1 qIZ rfl rfl fun j hj=>?_
   have:j=0:=by simp at hj; omega
   subst this;refine .op _ _ _ _ _ _ _ (by decide) [zAU,zAU] zAU (.arith _ (by decide) (by decide)) rfl fun j hj=>?_
   have:j=0∨j=1:=by simp at hj; omega
   rcases this with rfl | rfl
   ·exact zKW (j:=0) zSM qCX rfl (by decide) rfl
   ·exact zKW (j:=0) zSM qCX rfl (by decide) rfl
  all_goals exact absurd hb (by decide)
def zVt:K:=G [kZ 2 [ki,ki,ki]] (G [M 3 0,kb 4 [ki,ki,ki] [(1,1,(kc 1)),(2,1,(kt 3))],S 2 4 3] kr)
theorem qAD:zQ prog Tryz.f50.ntmps (Tryz.f50.body.getD .skip)=some zVt.erase:=by kernel_rfl
@[simp] theorem zYz:zB prog 50=true:=by kernel_rfl
def zZZ:Entry:=⟨zVt,[.cell 2 3 true],false⟩
theorem zYG:zCd prog 50 zZZ:=⟨zYz,_,_,zFv,Tryz.func50,rfl,qAD,by kernel_rfl⟩
def qAz:K:=G [kZ 2 kz2] (G [M 3 0,kC 4 50 [(kt 3)],kb 5 kz2 [(0,1,(kc 3)),(1,3,(kt 4))],S 2 5 5] kr)
theorem qIo:zQ prog Tryz.f94.ntmps (Tryz.f94.body.getD .skip)=some qAz.erase:=by kernel_rfl
@[simp] theorem zY0:zB prog 94=true:=by kernel_rfl
def qAa:Entry:=⟨qAz,[.cell 2 5 true],false⟩
theorem zYH:zCd prog 94 qAa:=⟨zY0,_,_,zFv,Tryz.func94,rfl,qIo,by kernel_rfl⟩
def zVn:K:=G [kZ 8 kz1] (G [M 9 0,kC 10 50 [(kt 9)],M 11 1,M 12 2,kC 13 50 [(kt 12)],M 14 0,kBi 15 14 1 .add,kC 16 50 [(kt 15)],M 17 3,kC 18 50 [(kt 17)],kb 19 kz1 [(0,3,(kt 16)),(3,1,(kc 2)),(5,3,(kt 18))],kd 20 39 15 1 kz1 [(0,15,(kt 19))],kb 21 kz1 [(0,3,(kt 10)),(3,1,(kc 8)),(4,1,(kt 11)),(5,3,(kt 13)),(13,1,(kt 20))],S 8 21 15] kr)
theorem qCm:zQ prog Tryz.f93.ntmps (Tryz.f93.body.getD .skip)=some zVn.erase:=by kernel_rfl
@[simp] theorem zVF:zB prog 93=true:=by kernel_rfl
def zVh:Entry:=⟨zVn,[.cell 8 15 true],false⟩
theorem zWr:zCd prog 93 zVh:=⟨zVF,_,_,zFv,Tryz.func93,rfl,qCm,by kernel_rfl⟩
def zVx:K:=G [kZ 6 kz0] (G [M 9 0,kC 10 50 [(kt 9)],kC 11 50 [(kc 0)],M 12 1,kb 13 kz0 [(0,3,(kt 10)),(3,1,(kc 0)),(4,3,(kt 11)),(7,1,(kt 12))],kZ 7 kz0,S 7 13 31] (Z (G [kMi 8 0] (K.block 0 (K.loop (Z (G [M 14 8,M 15 2,kN 16 15,kB 17 14 16 .lss] (Y 17 ks (K.exit 0))) (Z (K.block 1 (K.dops [(0,0,D 20 7 8),(1,0,L 21 20 1),(2,0,M 22 2),(3,0,M 23 8),(4,0,kX 24 22 23 1),(5,0,L 25 24 1),(6,0,kC 26 50 [(kt 25)]),(7,0,⟨none,.bslice (some 27) 9 1 2 [(.string ⟨#[]⟩),(.string ⟨#[]⟩)] [(0,1,(.const (.string ⟨#[120]⟩))),(1,1,(.const (.string ⟨#[121]⟩)))]⟩),(8,0,M 28 8),(9,0,kX 29 27 28 1),(10,0,L 30 29 1),(11,0,M 31 8),(12,0,kb 32 kz5 [(0,3,(kt 26)),(3,1,(kt 30)),(10,1,(kt 31))]),(13,0,kd 33 85 11 1 kz5 [(0,11,(kt 32))]),(14,0,kP 34 85 11 112 21 33),(15,0,D 35 7 8),(16,0,S 35 34 1)])) (K.ops [M 18 8,kBi 19 18 1 .add,M 8 19])))))) (G [J 36 7 31,S 6 36 31] kr)))
theorem qCr:zQ prog Tryz.f95.ntmps (Tryz.f95.body.getD .skip)=some zVx.erase:=by kernel_rfl
@[simp] theorem zVH:zB prog 95=true:=by kernel_rfl
def zVj:Entry:=⟨zVx,[.cell 6 31 true],true⟩
theorem zWt:zCd prog 95 zVj:=⟨zVH,_,_,zFv,Tryz.func95,rfl,qCr,by kernel_rfl⟩
def qAs:K:=G [kZ 0 [kl,kl]] (G [kC 5 50 [(kc 20)],kC 6 50 [(kc 11)],kC 7 93 [(kc 21),(kc 0),(kc 10),(kc 4)],kC 8 50 [(kc 23)],kb 9 kz1 [(0,3,(kt 8))],kd 10 39 15 2 kz6 [(0,15,(kt 7)),(15,15,(kt 9))],kb 11 kz1 [(0,3,(kt 5)),(3,1,(kc 7)),(5,3,(kt 6)),(13,1,(kt 10))],kZ 1 kz1,S 1 11 15] (G [kC 12 50 [(kc 24)],kC 13 93 [(kc 25),(kc 0),(kc 11),(kc 5)],kC 14 93 [(kc 27),(kc 1),(kc 11),(kc 5)],kd 15 39 15 2 kz6 [(0,15,(kt 13)),(15,15,(kt 14))],kb 16 kz1 [(0,3,(kt 12)),(3,1,(kc 4)),(4,1,(kc 0)),(13,1,(kt 15))],kZ 2 kz1,S 2 16 15] (G [kC 17 50 [(kc 29)],kC 18 93 [(kc 30),(kc 0),(kc 10),(kc 6)],kC 19 93 [(kc 16),(kc 0),(kc 10),(kc 6)],kd 20 39 15 2 kz6 [(0,15,(kt 18)),(15,15,(kt 19))],kb 21 kz1 [(0,3,(kt 17)),(3,1,(kc 4)),(4,1,(kc 2)),(13,1,(kt 20))],kZ 3 kz1,S 3 21 15] (G [kC 22 50 [(kc 0)],kC 23 50 [(kc 1)],kC 24 50 [(kc 2)],kC 25 50 [(kc 3)],kC 26 50 [(kc 10)],kC 27 50 [(kc 11)],kC 28 50 [(kc 12)],kd 29 31 3 6 [ki,ki,ki,ki,ki,ki,ki,ki,ki,ki,ki,ki,ki,ki,ki,ki,ki,ki] [(0,3,(kt 23)),(3,3,(kt 24)),(6,3,(kt 25)),(9,3,(kt 26)),(12,3,(kt 27)),(15,3,(kt 28))],⟨none,.build (some 30) kz9 [(0,3,(kt 22)),(3,1,(.const (.string ⟨#[109]⟩))),(5,1,(kt 29))]⟩,kd 31 112 6 1 kz9 [(0,6,(kt 30))],kb 32 [kl,kl] [(0,1,(kt 31))],kZ 4 [kl,kl],S 4 32 2] (Z (K.dops [(0,0,D 33 4 1),(1,0,
 L 34 33 1),(2,0,kC 35 50 [(kc 1)]),(3,0,kC 36 50 [(kc 0)]),(4,0,kC 37 50 [(kc 4)]),(5,0,kC 38 94 [(kc 10)]),(6,0,⟨none,.build (some 39) kz5 [(0,3,(kt 37)),(3,1,(.const (.string ⟨#[97]⟩))),(4,5,(kt 38))]⟩),(7,0,kd 40 85 11 1 kz5 [(0,11,(kt 39))]),(8,0,kC 41 94 [(kc 11)]),(9,0,J 42 1 15),(10,0,⟨none,.build (some 43) kz0 [(0,3,(kt 35)),(3,1,(kc 5)),(4,3,(kt 36)),(7,1,(.const (.string ⟨#[112]⟩))),(8,1,(kt 40)),(9,5,(kt 41)),(14,15,(kt 42))]⟩),(11,0,kd 44 41 31 1 kz0 [(0,31,(kt 43))]),(12,0,kP 45 41 31 352 34 44),(13,0,D 46 4 1),(14,0,S 46 45 1)]) (Z (K.dops [(0,0,D 47 4 1),(1,0,L 48 47 1),(2,0,kC 49 50 [(kc 2)]),(3,0,kC 50 50 [(kc 0)]),(4,0,kC 51 50 [(kc 5)]),(5,0,kC 52 94 [(kc 11)]),(6,0,⟨none,.build (some 53) kz5 [(0,3,(kt 51)),(3,1,(.const (.string ⟨#[97]⟩))),(4,5,(kt 52))]⟩),(7,0,kd 54 85 11 1 kz5 [(0,11,(kt 53))]),(8,0,kC 55 94 [(kc 12)]),(9,0,kC 56 50 [(kc 18)]),(10,0,kC 57 50 [(kc 12)]),(11,0,J 58 2 15),(12,0,kd 59 39 15 1 kz1 [(0,15,(kt 58))]),(13,0,kb 60 kz1 [(0,3,(kt 56)),(3,1,(kc 7)),(5,3,(kt 57)),(13,1,(kt 59))]),(14,0,⟨none,.build (some 61) kz0 [(0,3,(kt 49)),(3,1,(kc 5)),(4,3,(kt 50)),(7,1,(.const (.string ⟨#[113]⟩))),(8,1,(kt 54)),(9,5,(kt 55)),(14,15,(kt 60))]⟩),(15,0,kd 62 41 31 1 kz0 [(0,31,(kt 61))]),(16,0,kP 63 41 31 352 48 62),(17,0,D 64 4 1),(18,0,S 64 63 1)]) (Z (K.dops [(0,0,D 65 4 1),(1,0,
 L 66 65 1),(2,0,kC 67 50 [(kc 3)]),(3,0,kC 68 50 [(kc 0)]),(4,0,kC 69 50 [(kc 6)]),(5,0,kC 70 94 [(kc 10)]),(6,0,⟨none,.build (some 71) kz5 [(0,3,(kt 69)),(3,1,(.const (.string ⟨#[97]⟩))),(4,5,(kt 70))]⟩),(7,0,kd 72 85 11 1 kz5 [(0,11,(kt 71))]),(8,0,kC 73 94 [(kc 12)]),(9,0,kC 74 50 [(kc 19)]),(10,0,kC 75 50 [(kc 12)]),(11,0,J 76 3 15),(12,0,kd 77 39 15 1 kz1 [(0,15,(kt 76))]),(13,0,kb 78 kz1 [(0,3,(kt 74)),(3,1,(kc 7)),(5,3,(kt 75)),(13,1,(kt 77))]),(14,0,⟨none,.build (some 79) kz0 [(0,3,(kt 67)),(3,1,(kc 5)),(4,3,(kt 68)),(7,1,(.const (.string ⟨#[114]⟩))),(8,1,(kt 72)),(9,5,(kt 73)),(14,15,(kt 78))]⟩),(15,0,kd 80 41 31 1 kz0 [(0,31,(kt 79))]),(16,0,kP 81 41 31 352 66 80),(17,0,D 82 4 1),(18,0,S 82 81 1)]) (Z (K.dops [(0,0,D 83 4 1),(1,0,
 L 84 83 1),(2,0,kd 85 3 1 1 [ki] [(0,1,(kc 7))]),(3,0,kC 86 95 [(kc 10),(.const (.string ⟨#[65]⟩)),(kt 85)]),(4,0,kd 87 3 1 2 [ki,ki] [(0,1,(kc 8)),(1,1,(kc 9))]),(5,0,kC 88 95 [(kc 11),(.const (.string ⟨#[66]⟩)),(kt 87)]),(6,0,kd 89 3 1 1 [ki] [(0,1,(kc 13))]),(7,0,kC 90 95 [(kc 12),(.const (.string ⟨#[67]⟩)),(kt 89)]),(8,0,⟨none,.bslice (some 91) 41 31 3 [ki,ki,ki,ki,ki,ki,ki,(.string ⟨#[]⟩),kl,ki,ki,ki,ki,kl,ki,ki,ki,ki,ki,ki,ki,ki,ki,ki,ki,ki,kl,kl,kl,ki,kl,ki,ki,ki,ki,ki,ki,ki,(.string ⟨#[]⟩),kl,ki,ki,ki,ki,kl,ki,ki,ki,ki,ki,ki,ki,ki,ki,ki,ki,ki,kl,kl,kl,ki,kl,ki,ki,ki,ki,ki,ki,ki,(.string ⟨#[]⟩),kl,ki,ki,ki,ki,kl,ki,ki,ki,ki,ki,ki,ki,ki,ki,ki,ki,ki,kl,kl,kl,ki,kl] [(0,31,(kt 86)),(31,31,(kt 88)),(62,31,(kt 90))]⟩),(9,0,kP 92 41 31 352 84 91),(10,0,D 93 4 1),(11,0,S 93 92 1)]) (G [J 94 4 2,S 0 94 2] kr)))))))))
theorem qId:zQ prog Tryz.f49.ntmps (Tryz.f49.body.getD .skip)=some qAs.erase:=by kernel_rfl
@[simp] theorem zYy:zB prog 49=true:=by kernel_rfl
def zZY:Entry:=⟨qAs,[.cell 0 2 true],true⟩
theorem zYF:zCd prog 49 zZY:=⟨zYy,_,_,zFv,Tryz.func49,rfl,qId,by kernel_rfl⟩
def zQT:K:=G [kZ 2 [ki,ki,kl]] (G [M 3 0,kb 4 [ki,ki,kl] [(1,1,(kt 3))],kd 5 46 3 1 [ki,ki,kl] [(0,3,(kt 4))],kb 6 [ki,ki,kl] [(0,1,(kc 2)),(2,1,(kt 5))],S 2 6 3] kr)
theorem zVE:zQ prog Tryz.f51.ntmps (Tryz.f51.body.getD .skip)=some zQT.erase:=by kernel_rfl
@[simp] theorem zVG:zB prog 51=true:=by kernel_rfl
def zVi:Entry:=⟨zQT,[.cell 2 3 true],false⟩
theorem zWs:zCd prog 51 zVi:=⟨zVG,_,_,zFv,Tryz.func51,rfl,zVE,by kernel_rfl⟩
def qKP:List (Nat×Entry):=(49,zZY)::(50,zZZ)::(94,qAa)::(93,zVh)::(95,zVj)::(51,zVi)::[]
theorem zXR:∀f e,Go.Abs.findTb f qKP=some e→zCd prog f e:=zEP zYF (zEP zYG (zEP zYH (zEP zWr (zEP zWt (zEP zWs zZM)))))
def qQi:Run:=fun _ _ _=>none
theorem zZ2:zBM prog qQi:=fun _ _ _ _ _ h=>by cases h
theorem zYP:Ret prog 49 [] [] (.agg (zK zAt)) []:=zX6 (lf:=20) (n:=50) zXR zZ2 (by kernel_rfl)
theorem zC5 (n:Int):Ret prog 50 [int n] [] (.agg (zG (iD n))) []:=by refine zH Tryz.func50 rfl qAD (rs:=[.cell 2 3 true]) (by kernel_rfl) ?_;unfold zVt;simp -implicitDefEqProofs;exact zA 0 (by simp[zG,iD])
theorem zL1 (n:Int):Ret prog 51 [int n] [] (.agg (zC (zFH n))) []:=by refine zH Tryz.func51 rfl zVE (rs:=[.cell 2 3 true]) (by kernel_rfl) ?_;unfold zQT;simp -implicitDefEqProofs;exact zA 0 (by simp[zC,zFH,Val.k,Val.n,Val.kids])
def qAy:K:=G [kMb 4 false] (Z (G [M 6 0,kN 7 6,M 8 1,kN 9 8,kQ 10 7 9 true] (Y 10 (G [kMb 4 false] kr) ks)) (Z (G [kMi 5 0] (K.block 0 (K.loop (Z (G [M 11 5,M 12 0,kN 13 12,kB 14 11 13 .lss] (Y 14 ks (K.exit 0))) (Z (K.block 1 (Z (K.dops [(0,0,M 17 0),(1,0,M 18 5),(2,0,kX 19 17 18 1),(3,0,L 20 19 1),(4,0,M 21 1),(5,0,M 22 5),(6,0,kX 23 21 22 1),(7,0,L 24 23 1),(8,0,kC 25 31 [(kt 20),(kt 24)]),(9,0,kR 26 25)]) (Y 26 (G [kMb 4 false] kr) ks))) (K.ops [M 15 5,kBi 16 15 1 .add,M 5 16])))))) (G [kMb 4 true] kr)))
theorem qIl:zQ prog Tryz.f22.ntmps (Tryz.f22.body.getD .skip)=some qAy.erase:=by kernel_rfl
@[simp] theorem qMa:zB prog 22=true:=by kernel_rfl
theorem zZE (a b:List (List Id))(ha:a.length≤1000):Ret prog 22 [.sl a.length (jU a),.sl b.length (jU b)] [] (bl (decide (a=b))) []:=by
 refine zH Tryz.func22 rfl qIl (rs:=[.slot 4]) (by kernel_rfl) ?_;unfold qAy;by_cases hab:a.length=b.length
 ·have hab':(a.length:Int)=b.length:=by omega
  simp -implicitDefEqProofs [hab];intro hlb;refine jR (S:=Nat) (fun i=>[(0,.sl a.length (jU a)),(1,.sl b.length (jU b)),(5,int i)]) (fun s=>[]) (fun i=>i≤a.length∧a.take i=b.take i) (fun i=>a.length-i) 0 (by simp)
   (zP [] 0 (by simp) (by simp) (by simp) (by simp[hab])) ?_
  rintro i ⟨hi,hn⟩;by_cases h:i<a.length
  ·have hb:i<b.length:=by omega
   have hs:=zUR a[i] b[i];have hpa:=zDr h;have hpb:=zDr hb;have hane:¬a=[]:=fun e=>by rw[e]at h; simp at h
   have hbne:¬b=[]:=fun e=>by rw[e]at hb; simp at hb
   have hw:=qC h (show a.length≤maxLen by simp[maxLen]; omega);simp -implicitDefEqProofs [h,hb,hpa,hpb,hane,hbne];intro _;refine qU hs (by simp) (by simp) ?_;by_cases hx:a[i]=b[i]
   ·simp -implicitDefEqProofs [hx];refine zO (i+1) ⟨h,?_⟩ (by omega) (zP [] 0 (by simp) (by simp) (by simp) (by simp[hw]));rw[jA9 h,jA9 hb,hn,hx]
   ·have hne:a≠b:=fun e=>hx (by subst e; rfl)
    simp -implicitDefEqProofs [hx];exact zA 0 (by simp[hne])
  ·have:i=a.length:=by omega
   subst this;simp -implicitDefEqProofs;have:a=b:=by rw[jB0,hab,jB0]at hn; exact hn
   exact fun _=>zA 0 (by simp[this])
 ·have hne:a≠b:=fun e=>hab (by rw[e])
  have hab':¬(a.length:Int)=b.length:=by omega
  simp -implicitDefEqProofs [hab'];exact fun _ _=>zA 0 (by simp[hne])
def zRB {β : Type}(cf : β→β→Int)(x : β):List β→List β
 | []=>[x]
 | y::l=>if cf y x<0 then y::zRB cf x l else x::y::l
def zOf {β : Type}(cf : β→β→Int):List β→List β
 | []=>[]
 | x::l=>zRB cf x (zOf cf l)
theorem zJb {β : Type}(cf : β→β→Int)(x : β):∀l,(zRB cf x l).Perm (x::l)
 | []=>.refl _
 | y::l=>by
  unfold zRB;split
  ·exact((zJb cf x l).cons y).trans (.swap x y l)
  ·exact .refl _
theorem zJN {β : Type}{cf : β→β→Int}(ho:Ord cf)(x : β):∀{l:List β},l.Pairwise (fun x y=>¬cf y x<0)→(zRB cf x l).Pairwise (fun x y=>¬cf y x<0)
 | [],_=>by simp[zRB]
 | y::l,h=>by
  obtain⟨h1,h2⟩:=jBq.1 h;unfold zRB;split
  ·rename_i hy;refine jBq.2 ⟨fun z hz=>?_,zJN ho x h2⟩;rcases jA5.1 ((zJb cf x l).mem_iff.1 hz)with rfl | hz
   ·exact fun hh=>ho.irrefl _ (ho.trans _ _ _ hy hh)
   ·exact h1 z hz
  ·rename_i hy;refine jBq.2 ⟨fun z hz=>?_,h⟩;rcases jA5.1 hz with rfl | hz
   ·exact hy
   ·exact ho.ntrans _ _ _ (h1 z hz) hy
theorem zJd {β : Type}{cf : β→β→Int}(ho:Ord cf):∀l:List β,(zOf cf l).Perm l∧(zOf cf l).Pairwise (fun x y=>¬cf y x<0)
 | []=>⟨.refl _,.nil⟩
 | x::l=>by obtain⟨h1,h2⟩:=zJd ho l;exact⟨(zJb cf x _).trans (h1.cons x),zJN ho x h2⟩
theorem zQ6 {β : Type}{cf : β→β→Int}(ho:Ord cf)(l:List β):zEm cf l=zOf cf l:=(zI5 ho (zJd ho l).1 (zJd ho l).2).symm
theorem zYR:zBC zAt=[iD 1,iD 2,iD 3]:=by rw[zBC,zZH];kernel_rfl
def zYQ:List Edg:=[⟨iD 1,iD 10,iD 11⟩,⟨iD 2,iD 11,iD 12⟩,⟨iD 3,iD 10,iD 12⟩]
theorem zPq:zBj zAt=zYQ:=by unfold zBj;rw[zYR];kernel_rfl
def zC4:List (List Id):=[[iD 1,iD 2],[iD 3]]
theorem zGc:zA0 zAt (iD 10) (iD 12)=zC4:=by unfold zA0;rw[zPq];kernel_rfl
theorem zSO:zA0 zAt (iD 12) (iD 10)=[]:=by unfold zA0;rw[zPq];kernel_rfl
theorem zW3:zHg zAt [iD 1,iD 2] (zFH 5) 100=(zFH 5,10,0):=by kernel_rfl
theorem zYT:zBk zAt (iD 2) 0=[0,1]:=by kernel_rfl
theorem zYS:zBk zAt (iD 1) 1=[]:=by kernel_rfl
theorem zYU:zAy zAt (jP (iD 10)) 1=([zFH 0,zFH (-1),zFH 1],0):=by unfold zAy;rw[zQ6 zLq.ord];kernel_rfl
theorem zW2:zER zAt (iD 10) (iD 12) 1 100=(zFH (-1),zC4,19):=by unfold zER;rw[zYU,zGc];kernel_rfl
end Go.Proofs.YtdnelmeboihpkaaGreatDoor
