/- domain.all: the values of a type up to a bound. -/
import Derived.Test.YtolkhapmieigcaaGreatDoorX19
set_option linter.unusedVariables false
set_option maxHeartbeats 8000000
set_option maxRecDepth 100000
set_option linter.unusedSimpArgs false
namespace Go.Proofs.YtolkhapmieigcaaGreatDoor
open Go.Abs
def qCI:K:=G [kO 3 0,kO 4 1,kMn 6] (G [kZ 7 [kl]] (Z (G [D 21 4 0,L 22 21 1] (K.block 0 (G [kQi 24 22 0 false,M 23 24] (Y 23 (Z (G [M 25 2,⟨none,.neg (some 26) (kt 25)⟩,M 8 26] (K.block 1 (K.loop (Z (G [M 27 8,M 28 2,kB 29 27 28 .leq] (Y 29 ks (K.exit 1))) (Z (K.block 2 (K.dops [(0,0,L 32 7 1),(1,0,M 33 8),(2,0,kb 34 [ki,ki,kl] [(0,1,(kc 0)),(1,1,(kt 33))]),(3,0,kN 35 32),(4,0,kd 36 84 3 1 [ki,ki,kl] [(0,3,(.const (.agg #[ki,ki,kl])))]),(5,0,kP 37 84 3 40 32 36),(6,6,kX 38 37 35 3),(7,6,S 38 34 3),(8,5,S 7 37 1)])) (K.ops [M 30 8,kBi 31 30 1 .add,M 8 31])))))) (G [L 39 7 1,M 6 39] kr)) (G [kQi 41 22 1 false,M 40 41] (Y 40 (G [kb 42 [ki,ki,kl] [(0,1,(kc 1))],kb 43 [ki,ki,kl] [(0,1,(kc 1)),(1,1,(kc 1))],⟨none,.brow (some 44) 84 3 2 [ki,ki,kl,ki,ki,kl] [(0,3,(kt 42)),(3,3,(kt 43))]⟩,M 6 44] kr) (G [kQi 46 22 2 false,M 45 46] (Y 45 (Z (K.dops [(0,1,J 47 3 2),(1,1,D 48 4 4),(2,1,L 49 48 1),(3,1,kXi 50 49 5 0),(4,1,J 51 50 5),(5,0,M 52 2),(6,3,kC 53 72 [(kt 47),(kt 51),(kt 52)]),(7,0,M 9 53)]) (Z (G [M 54 2,⟨none,.mm (some 55) false [(kt 54),(kc 2)]⟩,kBi 56 55 1 .add,kMi 57 0] (K.block 3 (K.loop (G [kB 58 57 56 .lss] (Z (Y 58 ks (K.exit 3)) (Z (K.block 4 (G [M 59 57,M 10 59] (G [M 60 9,kd 61 82 1 1 [kl] [(0,1,(kt 60))],M 62 10,kC 63 137 [(kt 61),(kt 62)],kC 64 74 [(kt 63)]] (K.block 5 (K.rng (kt 64) [65] (K.ops [M 11 65]) (K.block 6 (K.dops [(0,0,L 66 7 1),(1,0,
 M 67 11),(2,0,kb 68 [ki,ki,kl] [(0,1,(kc 4)),(2,1,(kt 67))]),(3,0,kN 69 66),(4,0,kd 70 84 3 1 [ki,ki,kl] [(0,3,(.const (.agg #[ki,ki,kl])))]),(5,0,kP 71 84 3 40 66 70),(6,6,kX 72 71 69 3),(7,6,S 72 68 3),(8,5,S 7 71 1)]))))))) (K.ops [kBi 73 57 1 .add,M 57 73]))))))) (G [L 74 7 1,M 6 74] kr))) ks)))))))) (G [J 76 3 2,D 77 4 1,J 78 77 3,kC 79 70 [(kt 76),(kt 78)],M 75 79,kE 80 75 0,kE 81 75 1,kZ 12 kz0,S 12 80 31,M 13 81] (G [kMn 14] (Z (G [D 82 12 8,L 83 82 1,kN 84 83,kMi 85 0] (K.block 7 (K.loop (G [kB 86 85 84 .lss] (Z (Y 86 ks (K.exit 7)) (Z (K.block 8 (G [M 87 85,kX 88 83 85 11,J 89 88 11,kZ 16 kz5,M 15 87,S 16 89 11] (G [J 90 3 2,D 91 16 4,J 92 91 5,M 93 2,kC 94 72 [(kt 90),(kt 92),(kt 93)],M 17 94] (G [M 95 14,M 96 17,kd 97 82 1 1 [kl] [(0,1,(kt 96))],kP 98 82 1 24 95 97,M 14 98] (G [M 99 17,kN 100 99,kMi 101 0] (K.block 9 (K.loop (G [kB 102 101 100 .lss] (Z (Y 102 ks (K.exit 9)) (Z (K.block 10 (G [kX 103 99 101 3,J 104 103 3,kZ 19 [ki,ki,kl],S 19 104 3] (G [D 105 12 3,L 106 105 1,kQi 107 106 1 false] (Y 107 (K.dops [(0,0,L 108 7 1),(1,0,M 109 15),(2,0,J 110 19 3),(3,0,kd 111 84 3 1 [ki,ki,kl] [(0,3,(kt 110))]),(4,0,kb 112 [ki,ki,kl] [(0,1,(kc 3)),(1,1,(kt 109)),(2,1,(kt 111))]),(5,0,kN 113 108),(6,0,kd 114 84 3 1 [ki,ki,kl] [(0,3,(.const (.agg #[ki,ki,kl])))]),(7,0,kP 115 84 3 40 108 114),(8,6,kX 116 115 113 3),(9,6,S 116 112 3),(10,5,S 7 115 1)]) ks)))) (K.ops [kBi 117 101 1 .add,M 101 117]))))))))))) (K.ops [kBi 118 85 1 .add,M 85 118]))))))) (Z (G [D 119 12 3,
 L 120 119 1,kQi 121 120 0 false] (Y 121 (K.wk (G [M 122 14,kC 123 74 [(kt 122)]] (K.block 11 (K.rng (kt 123) [124] (K.ops [M 20 124]) (K.block 12 (K.dops [(0,0,L 125 7 1),(1,0,M 126 20),(2,0,kb 127 [ki,ki,kl] [(0,1,(kc 2)),(2,1,(kt 126))]),(3,0,kN 128 125),(4,0,kd 129 84 3 1 [ki,ki,kl] [(0,3,(.const (.agg #[ki,ki,kl])))]),(5,0,kP 130 84 3 40 125 129),(6,6,kX 131 130 128 3),(7,6,S 131 127 3),(8,5,S 7 130 1)])))))) ks)) (G [L 132 7 1,M 6 132] kr)))))))
def qFA:Nat->Option wE:=fun|12=>k_ [1,1,1,1,1,0,3,0] | 7=>k_ [0,0,0,0,0,0,6,6,5] | 18=>k_ [0,0,0,0,0,0,6,6,5] | 38=>k_ [0,0,0,0,0,0,6,6,5] | 32=>k_ [0,0,0,0,0,0,0,0,6,6,5]|_=>none
theorem qKU:kx Tryz.f72 qFA qCI:=mz (by kernel_rfl)
def m9(m:Int):wI:=(List.range (2*m+1).toNat).map fun(i:Nat)=>.mk 0 (i-m) []
def zJa(m:Int)(e:wI):wI:=(List.range ((if 2<m then 2 else m)+1).toNat).flatMap fun k=>(yI (List.replicate k e)).map (.mk 4 0)
def yC(i:Int):List wI->wI
 |[]=>[]
 |l::r=>l.map (fun v=>.mk 3 i [v])++yC (i+1) r
def sB(l:List wI):wI:=(yI l).map (.mk 2 0)
def uB(k:Int)(l:List wI):wI:=if k=0 then sB l else if k=1 then yC 0 l else []
def bW(p:Prg)(m:Int):Nat->Typ->wI
 | 0,_=>[]
 |n+1,t=>if t.k=0 then m9 m else if t.k=1 then [.mk 1 0 [],.mk 1 1 []]else if t.k=2 then zJa m (bW p m n (t.kids.headD Typ.zero))
  else uB (dfn p t.id).kind ((dfn p t.id).slots.map fun s=>bW p m n s.typ)
theorem nT:∀(l acc:List wI),(l.foldl eG acc).length=acc.length*(l.map List.length).foldl (· * ·) 1
 |[],acc=>by simp
 |a::l,acc=>by
  have h:∀(l:wA) (x y:Nat),l.foldl (· * ·) (x*y)=x*l.foldl (· * ·) y:=by
   intro l;induction l with
   |nil=>intro x y;rfl
   |cons a l ih=>intro x y;simp only[jAw,Nat.mul_assoc,ih]
  simp only[jAw,jAd,nT l,gL,Nat.one_mul];have:=h (l.map List.length) a.length 1;rw[Nat.mul_one]at this;rw[this,Nat.mul_assoc]
theorem zIb:∀(l:List wI) (z:List Sz) (a b:Int),z.map (·.a)=l.map (fun x=>(x.length:Int))->(nU a b z).e=0->(nU a b z).a=a*((l.map List.length).foldl (· * ·) 1:Nat)
 |[],[],a,b,_,_=>by simp[nU]
 |x::l,k::z,a,b,h,he=>by
  simp only[jAd,jBd]at h;simp only[nU]at he ⊢;split at he
  .simp at he
  .rename_i hn;rw[if_neg hn,zIb l z _ _ h.2 he,h.1];have hh:∀(l:wA) (x y:Nat),l.foldl (· * ·) (x*y)=x*l.foldl (· * ·) y:=by
    intro l;induction l with
    |nil=>intro x y;rfl
    |cons a l ih=>intro x y;simp only[jAw,Nat.mul_assoc,ih]
   have:=hh (l.map List.length) x.length 1;rw[Nat.mul_one]at this;simp only[jAd,jAw,Nat.one_mul,this];rw[Int.natCast_mul,Int.mul_assoc]
 |[],_::_,_,_,h,_=>by simp at h
 |_::_,[],_,_,h,_=>by simp at h
theorem zFe:∀(l:List wI) (z:List Sz) (i a b:Int),z.map (·.a)=l.map (fun x=>(x.length:Int))->(gM a b z).a=a+(yC i l).length
 |[],[],i,a,b,_=>by simp[gM,yC]
 |x::l,k::z,i,a,b,h=>by simp only[jAd,jBd]at h;simp only[gM,yC,jA4,jAb];rw[zFe l z (i+1) _ _ h.2,h.1];omega
 |[],_::_,_,_,_,h=>by simp at h
 |_::_,[],_,_,_,h=>by simp at h
theorem zMS(m:Int)(hm:0<=m)(e:wI)(k:Sz)(hk:k.a=e.length)(he:k.e=0):(dK m k).a=(zJa m e).length:=by
 have h2:eG (eG [[]] e) e=yI [e,e]:=rfl;unfold dK zJa;rw[if_neg (by simp[he])];have c0:m=0\/m=1\/2<=m:=by omega
 rcases c0 with rfl|rfl|hm
 .simp[List.range_succ]
 .simp[List.range_succ,yI,gL,hk];omega
 .have e1:((if 2<m then 2 else m)+1).toNat=3:=by split<;>omega
  rw[e1,if_neg (by omega),if_neg (by omega)];simp[List.range_succ,yI,gL,hk,List.replicate];omega
theorem zSN{p:Prg}{m:Int}{n:Nat}(ih:∀t,(jH p m n t).e=0->(jH p m n t).a=(bW p m n t).length):∀(l:List Slt),rQ (l.map fun s=>jH p m n s.typ)=0 ->
 (l.map fun s=>jH p m n s.typ).map (·.a)=(l.map fun s=>bW p m n s.typ).map (fun x=>(x.length:Int)):=by
 intro l h;have h0:=iH h;rw[jBy,jBy];apply jCa;intro s hs;exact ih s.typ (h0 _ (List.mem_map_of_mem hs))
theorem pM{k:Sz}(h:(gN k).e=0):k.e=0/\(gN k).a=k.a/\k.a<=4096:=by
 unfold gN at h⊢;split at h
 .simp at h;contradiction
 .rename_i h1;split at h
  .simp at h
  .rename_i h2;rw[if_neg h1,if_neg h2];simp at h1;exact⟨h1,rfl,by omega⟩
theorem zBw{p:Prg}{n:Nat}{t:Typ}(h:y5 p n t=true)(h0:t.k≠0)(h1:t.k≠1)(h2:t.k≠2):(dfn p t.id).kind=0\/(dfn p t.id).kind=1:=by
 cases n with
 |zero=>simp[y5]at h
 |succ n =>
  cases t with
  |mk k id kids =>
   simp only[Typ.k_mk]at h0 h1 h2;unfold dfn;simp only[y5,Typ.k_mk,Typ.id_mk,Typ.kids_mk,h2,if_false]at h;by_cases hk:kids=[]
   .by_cases h3:k=3
    .cases hf:qG p.defs id with
     |none=>simp[hk,h3,hf,mX]at h
     |some d=>simpa[hk,h3,hf,mX]using h
    .simp[hk,h3,h0,h1]at h
   .simp[hk]at h
theorem mU(p:Prg)(m:Int)(hm:0<=m):∀(n:Nat) (t:Typ),(jH p m n t).e=0->(jH p m n t).a=(bW p m n t).length
 | 0,t,h=>by unfold jH at h;split at h<;>simp at h
 |n+1,t,h=>by
  unfold jH bW at *
  split at h
  .simp at h
  rename_i hv;have hv:cI p t=true:=by simpa using hv
  rw[if_neg (by simp[hv])];by_cases h0:t.k=0
  .simp[h0,m9];omega
  by_cases h1:t.k=1
  .simp[h1]
  by_cases h2:t.k=2
  .rw[if_neg h0,if_neg h1,if_pos h2]at h⊢;rw[if_neg h0,if_neg h1,if_pos h2];obtain⟨e1,e2,_⟩:=pM h;have e3:(jH p m n (t.kids.headD Typ.zero)).e=0:=by
    by_cases hz:(jH p m n (t.kids.headD Typ.zero)).e=0
    .exact hz
    .exact absurd e1 (by rw[dK,if_pos hz];exact hz)
   rw[e2];exact zMS m hm _ _ (mU p m hm n (t.kids.headD Typ.zero) e3) e3
  .rw[if_neg h0,if_neg h1,if_neg h2]at h⊢;rw[if_neg h0,if_neg h1,if_neg h2];obtain⟨e1,e2,_⟩:=pM h;rw[e2];have e3:rQ ((dfn p t.id).slots.map fun s=>jH p m n s.typ)=0:=by
    by_cases hz:rQ ((dfn p t.id).slots.map fun s=>jH p m n s.typ)=0
    .exact hz
    .exact absurd e1 (by simp[aP,hz])
   have e4:=zSN (fun t=>mU p m hm n t) _ e3;have e5:=zBw hv h0 h1 h2;unfold uB;rcases e5 with e5|e5
   .rw[if_pos e5];have ee:aP (decide ((dfn p t.id).kind=0)) ((dfn p t.id).slots.map fun s=>jH p m n s.typ)=nU 1 1 ((dfn p t.id).slots.map fun s=>jH p m n s.typ):=by simp[aP,e3,e5]
    rw[ee]at e1 ⊢;rw[zIb _ _ _ _ e4 e1,sB,jAb,yI,nT];simp
   .rw[if_neg (by omega),if_pos e5];have ee:aP (decide ((dfn p t.id).kind=0)) ((dfn p t.id).slots.map fun s=>jH p m n s.typ)=gM 0 1 ((dfn p t.id).slots.map fun s=>jH p m n s.typ):=by simp[aP,e3,e5]
    rw[ee,zFe _ _ 0 _ _ e4];simp
def num(x:Int):Val:=.mk 0 x []
variable{j:Nat}
theorem zPQ{m:Int}(h:j<(2*m+1).toNat):(m9 m).take (j+1)=(m9 m).take j++[.mk 0 (j-m) []]:=by rw[jA7 (by simpa[m9]using h)];simp[m9]
def aN(X:wI)(j:Nat):wI:=(List.range j).flatMap fun k=>(yI (List.replicate k X)).map (.mk 4 0)
mutual
theorem zPc:∀(a:A) (k:Nat),vw j6 (fun _=>none) a=a->a.bnd k=true
 | .any,k,h=>rfl
 | .nil,k,h=>rfl
 | .lit _,k,h=>rfl
 | .agg cs,k,h=>by simp only[vw,A.agg.injEq]at h;simpa[A.bnd]using eO cs k h
 | .tup cs,k,h=>by simp only[vw,A.tup.injEq]at h;simpa[A.bnd]using eO cs k h
 | .sl n cs,k,h=>by simp only[vw,A.sl.injEq]at h;simpa[A.bnd]using eO cs k h.2
 | .fsl n cs,k,h=>by simp only[vw,A.fsl.injEq]at h;simpa[A.bnd]using eO cs k h.2
 | .ptr l off,k,h=>by simp[vw]at h
 | .rptr cs,k,h=>by simp only[vw,A.rptr.injEq]at h;simpa[A.bnd]using eO cs k h
 | .row l n,k,h=>by simp[vw,j6]at h
 | .rwp l n off,k,h=>by simp[vw]at h
 | .map l,k,h=>by simp[vw]at h
 | .clo f first cap,k,h=>by simp only[vw,A.clo.injEq,true_and]at h;simp[A.bnd,eO first k h.1,eO cap k h.2]
theorem eO:∀(cs:wF) (k:Nat),vwL j6 (fun _=>none) cs=cs->cY k cs=true
 |[],k,h=>rfl
 |c::cs,k,h=>by simp only[vwL,jBd]at h;simp[cY,zPc c k h.1,eO cs k h.2]
end
theorem vU(X:wI)(j:Nat):aN X (j+1)=aN X j++(yI (List.replicate j X)).map (.mk 4 0):=by simp[aN,List.range_succ]
theorem zMR(X:wI)(j d:Nat):∃R,aN X (j+d)=aN X j++R:=by
 induction d with
 |zero=>exact⟨[],by simp⟩
 |succ d ih =>
  obtain⟨R,hR⟩:=ih;exact⟨R++(yI (List.replicate (j+d) X)).map (.mk 4 0),by rw[<-jBb,vU,hR,jAq]⟩
theorem zKF{X:wI}{N i:Nat}(h:j<N)(hi:i<(yI (List.replicate j X)).length) :
 (aN X N).take ((aN X j).length+(i+1))=(aN X N).take ((aN X j).length+i)++[.mk 4 0 (yI (List.replicate j X))[i]]/\(aN X j).length+(i+1)<=(aN X N).length:=by
 obtain⟨R,hR⟩:=zMR X (j+1) (N-(j+1));rw[show j+1+(N-(j+1))=N by omega,vU]at hR;have hl:(aN X j).length+(i+1)<=(aN X N).length:=by rw[hR];simp;omega
 refine⟨?_,hl⟩;rw[<-jBb,jA7 (by omega)]
 congr 2
 have:(aN X N)[(aN X j).length+i]?=some (.mk 4 0 (yI (List.replicate j X))[i]):=by rw[hR,jAq,jB9 (by omega),Nat.add_sub_cancel_left,jAp (by simpa using hi)];simp[hi]
 rw[jA2 (by omega)]at this;exact jAy this
theorem zMm(l:wT)(k:Nat):cY k (jM l)=true:=eO _ k ((yW l).2 _ _)
attribute [simp] zMm
theorem p6(i:Int):∀(l r:List wI),yC i (l++r)=yC i l++yC (i+l.length) r
 |[],r=>by simp[yC]
 |x::l,r=>by have h:=p6 (i+1) l r;simp only[jBe,yC,h,jAc,jAq];rw[show i+1+(l.length:Int)=i+((l.length+1:Nat):Int) by omega]
variable{L:List wI}
theorem zJR(h:j<L.length):yC 0 (L.take (j+1))=yC 0 (L.take j)++L[j].map (fun v=>.mk 3 j [v]):=by rw[jA7 h,p6];simp[yC,jAx (Nat.le_of_lt h)]
theorem zJS{j k:Nat}(h:j<L.length)(hk:k<L[j].length) :
 (yC 0 L).take ((yC 0 (L.take j)).length+(k+1))=(yC 0 L).take ((yC 0 (L.take j)).length+k)++[.mk 3 j [L[j][k]]]/\(yC 0 (L.take j)).length+(k+1)<=(yC 0 L).length:=by
 have hR:yC 0 L=yC 0 (L.take j)++(L[j].map (fun v=>Val.mk 3 j [v])++yC ((j:Int)+1) (L.drop (j+1))):=by
  conv=>lhs;rw[<-jBw j L]
  rw[p6,jB6 h];simp[yC,jAx (Nat.le_of_lt h)]
 have hl:(yC 0 (L.take j)).length+(k+1)<=(yC 0 L).length:=by rw[hR];simp;omega
 refine⟨?_,hl⟩;rw[<-jBb,jA7 (by omega)]
 congr 2
 have:(yC 0 L)[(yC 0 (L.take j)).length+k]?=some (.mk 3 j [L[j][k]]):=by rw[hR,jB9 (by omega),Nat.add_sub_cancel_left,jAp (by simpa using hk)];simp[hk]
 rw[jA2 (by omega)]at this;exact jAy this
theorem zJF{X:wI}(h:j<=X.length):(∀ds,(zT (X.take j)++ds).take (j*3)=zT (X.take j))/\(∀ds,(zT (X.take j)++ds).drop (j*3+3)=ds.drop 3):=by
 have hl:(zT (X.take j)).length=j*3:=by simp[jAx h]
 refine⟨fun ds=>by rw[<-hl];simp,fun ds=>by rw[<-hl,List.drop_append];simp⟩
theorem zXZ(p:Prg)(hs:Sml p)(m:Int)(hm:0<=m/\m<=64):∀(n:Nat) (t:Typ),(jH p m n t).e=0->my 72 [.agg (zI p),.agg (zF t),int m] [] (.row 0 (bW p m n t).length) [.row false 84 3 (bW p m n t).length (zT (bW p m n t))]:=by
 intro n;induction n with
 |zero =>
  intro t h;unfold jH at h;split at h<;>simp at h
 |succ n ih =>
  intro t h;have hlen:=mU p m hm.1 (n+1) t h;have hle:=eF p m hm (n+1) t h;refine zK Tryz.func72 rfl qKU (rs:=[.slot 6]) (by kernel_rfl) ?_;unfold qCI;unfold jH at h;split at h
  .simp at h
  rename_i hv;have hv:cI p t=true:=by simpa using hv
  by_cases h0:t.k=0
  .have ha:bW p m (n+1) t=m9 m:=by rw[bW,if_pos h0]
   rw[ha];have hli:(m9 m).length=(2*m+1).toNat:=by simp[m9]
   have hw0:=qF (0-m) (by omega);have hw0':IntKind.i64.wrap (-m) = -m:=IntWalk.i64_in _ (by omega);simp -implicitDefEqProofs [zI,zF,h0,hw0,hw0'];refine qI (S:=Nat) (fun j=>[(2,int m),(6,.nil),(7,.ptr 2 0),(8,int (j-m))])
    (fun j=>[.box (zI p),.box (zF t),.box [.row 3 j],.row false 84 3 j (zT ((m9 m).take j))])
    (fun j=>(j:Int)<=2*m+1) (fun j=>(2*m+1).toNat-j) 0 (by simp;omega)
    ((yN (l:=2) (o:=0) rfl rfl 84 3).trans (mw [0,1,2,3] 0 (by rfl) (by simp[zI,zF,h0]))) ?_
   intro j hj;by_cases hjl:(j:Int)-m<=m
   .have htk:=zPQ (m:=m) (j:=j) (by omega);have hw1:=qF ((j:Int)-m+1) (by omega);have hll:((m9 m).take j).length=j:=by simp;omega
    have hjx:j<=(m9 m).length:=by omega
    simp -implicitDefEqProofs [hjl,vR,rY,hw1,jAx hjx,(zJF hjx).1,(zJF hjx).2];refine⟨⟨by simp[maxLen];omega,by omega⟩,by omega,?_⟩;exact zO (j+1) (by omega) (by omega) (kf [0,1,2,3] 0 (by rfl) (by simp[zI,zF,h0,htk,zN,Val.k,Val.n,Val.kids]) (by simp;omega))
   .have hjj:(j:Int)=2*m+1:=by omega
    have hjn:j=(m9 m).length:=by omega
    have htk:(m9 m).take j=m9 m:=by rw[hjn];exact jAl (jA _)
    simp -implicitDefEqProofs [hjl,htk];exact mv [3] 0 (by rfl) (by simp[hjn])
  by_cases h1:t.k=1
  .have ha:bW p m (n+1) t=[.mk 1 0 [],.mk 1 1 []]:=by rw[bW,if_neg h0,if_pos h1]
   rw[ha];simp -implicitDefEqProofs [zI,zF,h1];exact mv [3] 0 (by rfl) (by simp[zN,Val.k,Val.n,Val.kids])
  by_cases h2:t.k=2
  .obtain⟨x,hx⟩:=zEw hv h2;rw[if_neg h0,if_neg h1,if_pos h2,hx]at h;obtain⟨e1,_,_⟩:=pM h;have e3:(jH p m n x).e=0:=by
    by_cases hz:(jH p m n x).e=0
    .exact hz
    .exact absurd e1 (by rw[jD5,dK,if_pos hz];exact hz)
   have ha:bW p m (n+1) t=aN (bW p m n x) ((if 2<m then 2 else m)+1).toNat:=by rw[bW,if_neg h0,if_neg h1,if_pos h2,hx];rfl
   have hex:=eF p m hm n x e3;have hel:=mU p m hm.1 n x e3;have ih:=ih x e3;rw[ha]at hlen ⊢;generalize bW p m n x=X at ih hel hlen;simp -implicitDefEqProofs [zI,zF,h2,hx];refine zE3 ih (by simp[zI,zF,qX]) ?_;obtain⟨K,hK,hK2⟩:∃K:Nat,(if 2<m then 2 else m)+1=(K:Int)/\K<=3:=⟨((if 2<m then 2 else m)+1).toNat,by split<;>omega,by split<;>omega⟩;have hw3:IntKind.i64.wrap ((if 2<m then 2 else m)+1)=(K:Int):=by rw[<-hK];exact IntWalk.i64_in _ (by split<;>omega)
   rw[hK]at hlen ⊢;simp only[jCq]at hlen ⊢;have hW:(aN X K).length<=4096:=by omega
   simp -implicitDefEqProofs [hw3];refine qI (S:=Nat) (fun j=>[(7,.ptr 2 0),(9,.sl X.length (zT X)),(56,int K),(57,int j)])
    (fun j=>[.box (zI p),.box (zF t),.box [.row 3 (aN X j).length],.row false 84 3 (aN X j).length (zT ((aN X K).take (aN X j).length))])
    (fun j=>j<=K) (fun j=>K-j) 0 (by simp)
    ((yN (l:=2) (o:=0) rfl rfl 84 3).trans (mw [0,1,2,4] 1 (by rfl) (by simp[zI,zF,h2,hx,aN]))) ?_
   intro j hj;by_cases hjl:j<K
   .have hw4:=yK j (by omega);simp -implicitDefEqProofs [hjl,hw4];have hrep:my 137 [.sl 1 (jG [X]),int j] [] (.sl (List.replicate j X).length (jG (List.replicate j X))) []:=by have:=zQt j (by omega) (.sl X.length (zT X));rw[List.length_replicate,jG,jG,List.map_replicate];exact this
    refine mu hrep (by simp) ?_;simp -implicitDefEqProofs;refine mu (zAq (List.replicate j X)) (by simp) ?_;simp -implicitDefEqProofs;have hc1:(aN X (j+1)).length=(aN X j).length+(yI (List.replicate j X)).length:=by rw[vU];simp
    refine⟨[(7,.ptr 2 0),(9,.sl X.length (zT X)),(56,int K),(57,int j),(64,.clo 139 [] [.rptr [.sl (List.replicate j X).length (jG (List.replicate j X))]])],4,(yI (List.replicate j X)).map (fun t=>[gW t]),
     fun i=>[.box (zI p),.box (zF t),.box [.row 3 ((aN X j).length+i)],.row false 84 3 ((aN X j).length+i) (zT ((aN X K).take ((aN X j).length+i)))],
     139,[],[.rptr [.sl (List.replicate j X).length (jG (List.replicate j X))]],by simp,zI7,zIY _ _ rfl (by simp;omega),zAM (τ:=[]) (by simp) (by simp) (by simp) (by simp) (by simp[zI,zF]),by omega,?_,by simp,by simp,?_,?_⟩
    .intro i hi;simp[zI,zF]
    .intro i hi b' M r r';simp only[jAb]at hi;obtain⟨htk,hle⟩:=zKF hjl hi;have hlx:(aN X j).length+i<=(aN X K).length:=by omega
     have hcast:(((aN X j).length:Int)+(i:Int)).toNat=(aN X j).length+i:=by omega
     simp -implicitDefEqProofs [vR,rY,jAx hlx,(zJF hlx).1,(zJF hlx).2,hcast];refine⟨⟨by simp[maxLen];omega,by omega⟩,⟨by omega,by omega⟩,?_⟩;refine⟨jO [],_,?_,rfl⟩;exact mw [0,1,2,3,4] 0 (by rfl) (by simp[zI,zF,htk,zN,Val.k,Val.n,Val.kids,jBb])
    .simp -implicitDefEqProofs;exact zO (j+1) hjl (by omega) (mw [0,1,2,3] 0 (by rfl) (by simp[hc1,zI,zF,hw4]))
   .have hjj:j=K:=by omega
    subst hjj;simp -implicitDefEqProofs;exact mv [3] 0 (by rfl) (by simp)
  .rw[if_neg h0,if_neg h1,if_neg h2]at h;obtain⟨e1,_,_⟩:=pM h;have ha:bW p m (n+1) t=uB (dfn p t.id).kind ((dfn p t.id).slots.map fun s=>bW p m n s.typ):=by rw[bW,if_neg h0,if_neg h1,if_neg h2]
   have e5:=zBw hv h0 h1 h2;have hsl:=hs.dfn t.id;have e3:rQ ((dfn p t.id).slots.map fun s=>jH p m n s.typ)=0:=by
    by_cases hz:rQ ((dfn p t.id).slots.map fun s=>jH p m n s.typ)=0
    .exact hz
    .exact absurd e1 (by simp[aP,hz])
   have e4:∀s∈(dfn p t.id).slots,(jH p m n s.typ).e=0:=fun s hs=>iH e3 _ (List.mem_map_of_mem hs)
   have e6:∀s∈(dfn p t.id).slots,(bW p m n s.typ).length<=4096:=fun s hs=>by have g1:=eF p m hm n s.typ (e4 s hs);have g2:=mU p m hm.1 n s.typ (e4 s hs);omega
   rw[ha]at hlen ⊢;obtain⟨k,id,kids⟩:=t;simp only[Typ.k_mk,Typ.id_mk]at h0 h1 h2 hlen hsl e3 e4 e5 e6 ⊢;generalize hD:dfn p id=D at hlen hsl e3 e4 e5 e6 ⊢;rw[dfn]at hD;have hW:(uB D.kind (D.slots.map fun s=>bW p m n s.typ)).length<=4096:=by omega
   have hih:∀s∈D.slots,my 72 [.agg (zI p),.agg (zF s.typ),int m] [] (.row 0 (bW p m n s.typ).length) [.row false 84 3 (bW p m n s.typ).length (zT (bW p m n s.typ))]:=fun s hs=>ih s.typ (e4 s hs)
   have hLl:(D.slots.map fun s=>bW p m n s.typ).length=D.slots.length:=by simp
   have hLg:∀i (h:i<D.slots.length),(D.slots.map fun s=>bW p m n s.typ)[i]?=some (bW p m n D.slots[i].typ):=fun i h=>by simp[h]
   generalize (D.slots.map fun s=>bW p m n s.typ)=L at hLl hLg hW hlen ⊢;clear hlen h e1 ha hle hv;simp -implicitDefEqProofs [zI,zF,h0,h1,h2];refine mu (lO p id) (by simp[zI,zS,dI]) ?_;simp -implicitDefEqProofs [dI,hD,zJ];intro hl;rcases e5 with e5|e5
   .have hsv:uB D.kind L=sB L:=by simp[uB,e5]
    rw[hsv]at hW ⊢;refine qI (S:=Nat) (fun i=>[(2,int m),(3,.ptr 0 0),(7,.ptr 2 0),(12,.ptr 3 0),(14,.row 4 i),(83,.sl D.slots.length (qP D.slots)),(84,int D.slots.length),(85,int i)])
     (fun i=>[.box (zI p),.box (zF (.mk k id kids)),.box [.nil],.box (zJ D),.row false 82 1 i (jG (L.take i))])
     (fun i=>i<=D.slots.length) (fun i=>D.slots.length-i) 0 (by simp)
     ((jS (t:=14) (by simp) 82 1).trans (mw [0,1,2,3,4] 0 (by rfl) (by simp[zI,zF,zJ]))) ?_
    intro i hi;by_cases h:i<D.slots.length
    .have hil:i<L.length:=by omega
     have hl6:=e6 D.slots[i] (jA0 h);have hc:=hih D.slots[i] (jA0 h);have hLi:=hLg i h;rw[jA2 hil]at hLi;rw[<-jAy hLi]at hc hl6;simp -implicitDefEqProofs [h,qW h,aF,zI];refine mr hc [] (by simp[zI,zF]) ?_;simp -implicitDefEqProofs [rY];refine⟨⟨by simp[maxLen];omega,by omega⟩,?_⟩;have htL:jG (L.take (i+1))=jG (L.take i)++[.sl L[i].length (zT L[i])]:=by rw[jA7 hil,rA];rfl
     refine qI (S:=Nat) (fun k=>[(2,int m),(3,.ptr 0 0),(7,.ptr 2 0),(12,.ptr 3 0),(14,.row 4 (i+1)),(15,int i),(83,.sl D.slots.length (qP D.slots)),(84,int D.slots.length),(85,int i),(99,.sl L[i].length (zT L[i])),(100,int L[i].length),(101,int k)])
      (fun q=>[.box (zI p),.box (zF (.mk k id kids)),.box [.nil],.box (zJ D),.row false 82 1 (i+1) (jG (L.take (i+1)))])
      (fun q=>q<=L[i].length) (fun q=>L[i].length-q) 0 (by simp)
      (mw [0,1,2,3,4] 1 (by rfl) (by simp[zI,zF,zJ,htL])) ?_
     intro q hq;by_cases hql:q<L[i].length
     .have hwq:=yK q (by omega);simp -implicitDefEqProofs [hql,jE hql,zJ,e5,vR,rY,hwq];exact zO (q+1) hql (by omega) (mw [0,1,2,3,4] 0 (by rfl) (by simp[zI,zF,zJ,e5,hwq]))
     .have hqq:q=L[i].length:=by omega
      subst hqq;have hwi:=yK i (by omega);simp -implicitDefEqProofs;exact zO (i+1) h (by omega) (mw [0,1,2,3,4] 0 (by rfl) (by simp[zI,zF,zJ,hwi]))
    .have hi:i=D.slots.length:=by omega
     subst hi;have htk:L.take D.slots.length=L:=jAl (by omega);simp -implicitDefEqProofs [htk,e5,zJ];refine⟨jO [(7,.ptr 0 0),(14,.sl L.length (jG L))],[.box [.row 1 0],.row false 84 3 0 []],(yN (l:=2) (o:=0) rfl rfl 84 3).trans (mw [2,5] 1 (by rfl) (by simp[hLl])),?_⟩;simp -implicitDefEqProofs;refine mu (zAq L) (by simp) ?_;simp -implicitDefEqProofs;have hWl:(yI L).length=(sB L).length:=by simp[sB]
     refine⟨[(7,.ptr 0 0),(123,.clo 139 [] [.rptr [.sl L.length (jG L)]])],2,(yI L).map (fun t=>[gW t]),
      fun i=>[.box [.row 1 i],.row false 84 3 i (zT ((sB L).take i))],
      139,[],[.rptr [.sl L.length (jG L)]],by simp,zI7,zIY _ _ rfl (by omega),zAM (τ:=[]) (by simp) (by simp) (by simp) (by simp) (by simp),by omega,?_,by simp,by simp,?_,?_⟩
     .intro i hi;simp
     .intro i hi b' M r r';simp only[jAb]at hi;have hlx:i<=(sB L).length:=by omega
      have htk:zT ((sB L).take (i+1))=zT ((sB L).take i)++zN (.mk 2 0 (yI L)[i]):=by rw[jA7 (by omega),b7];simp[sB,zN]
      simp -implicitDefEqProofs [vR,rY,jAx hlx,(zJF hlx).1,(zJF hlx).2];refine⟨⟨by simp[maxLen];omega,by omega⟩,by omega,?_⟩;refine⟨jO [],_,?_,rfl⟩;exact mw [0,1,2] 0 (by rfl) (by simp[htk,zN,Val.k,Val.n,Val.kids])
     .have htk:(sB L).take (yI L).length=sB L:=jAl (by omega);simp -implicitDefEqProofs [htk];exact mv [1] 0 (by rfl) (by simp[hWl])
   .have hsv:uB D.kind L=yC 0 L:=by simp[uB,e5]
    rw[hsv]at hW ⊢;refine qI (S:=Nat) (fun i=>[(2,int m),(3,.ptr 0 0),(7,.ptr 2 0),(12,.ptr 3 0),(14,.row 5 i),(83,.sl D.slots.length (qP D.slots)),(84,int D.slots.length),(85,int i)])
     (fun i=>[.box (zI p),.box (zF (.mk k id kids)),.box [.row 4 (yC 0 (L.take i)).length],.box (zJ D),.row false 84 3 (yC 0 (L.take i)).length (zT ((yC 0 L).take (yC 0 (L.take i)).length)),.row false 82 1 i (jG (L.take i))])
     (fun i=>i<=D.slots.length) (fun i=>D.slots.length-i) 0 (by simp)
     (((yN (l:=2) (o:=0) rfl rfl 84 3).trans (jS (t:=14) (by simp) 82 1)).trans (mw [0,1,2,3,4,5] 0 (by rfl) (by simp[zI,zF,zJ,yC]))) ?_
    intro i hi;by_cases h:i<D.slots.length
    .have hil:i<L.length:=by omega
     have hl6:=e6 D.slots[i] (jA0 h);have hc:=hih D.slots[i] (jA0 h);have hLi:=hLg i h;rw[jA2 hil]at hLi;rw[<-jAy hLi]at hc hl6;simp -implicitDefEqProofs [h,qW h,aF,zI];refine mr hc [] (by simp[zI,zF]) ?_;simp -implicitDefEqProofs [rY];refine⟨⟨by simp[maxLen];omega,by omega⟩,?_⟩;have hcs:=zJR hil;have hc1:(yC 0 (L.take (i+1))).length=(yC 0 (L.take i)).length+L[i].length:=by rw[hcs];simp
     have htL:jG (L.take (i+1))=jG (L.take i)++[.sl L[i].length (zT L[i])]:=by rw[jA7 hil,rA];rfl
     refine qI (S:=Nat) (fun k=>[(2,int m),(3,.ptr 0 0),(7,.ptr 2 0),(12,.ptr 3 0),(14,.row 5 (i+1)),(15,int i),(83,.sl D.slots.length (qP D.slots)),(84,int D.slots.length),(85,int i),(99,.sl L[i].length (zT L[i])),(100,int L[i].length),(101,int k)])
      (fun q=>[.box (zI p),.box (zF (.mk k id kids)),.box [.row 4 ((yC 0 (L.take i)).length+q)],.box (zJ D),.row false 84 3 ((yC 0 (L.take i)).length+q) (zT ((yC 0 L).take ((yC 0 (L.take i)).length+q))),.row false 82 1 (i+1) (jG (L.take (i+1)))])
      (fun q=>q<=L[i].length) (fun q=>L[i].length-q) 0 (by simp)
      (mw [0,1,2,3,4,5] 1 (by rfl) (by simp[zI,zF,zJ,htL])) ?_
     intro q hq;by_cases hql:q<L[i].length
     .obtain⟨htk,hle⟩:=zJS hil hql;have hlx:(yC 0 (L.take i)).length+q<=(yC 0 L).length:=by omega
      have hcast:(((yC 0 (L.take i)).length:Int)+(q:Int)).toNat=(yC 0 (L.take i)).length+q:=by omega
      have hwq:=yK q (by omega);simp -implicitDefEqProofs [hql,jE hql,zJ,e5,vR,rY,jAx hlx,(zJF hlx).1,(zJF hlx).2,hcast,hwq];refine⟨⟨by simp[maxLen];omega,by omega⟩,⟨by omega,by omega⟩,?_⟩;exact zO (q+1) hql (by omega) (mw [0,1,2,3,4,5] 0 (by rfl) (by simp[zI,zF,zJ,e5,htk,zN,Val.k,Val.n,Val.kids,jBb,hwq]))
     .have hqq:q=L[i].length:=by omega
      subst hqq;have hwi:=yK i (by omega);simp -implicitDefEqProofs;exact zO (i+1) h (by omega) (mw [0,1,2,3,4,5] 0 (by rfl) (by simp[zI,zF,zJ,hc1,hwi]))
    .have hi:i=D.slots.length:=by omega
     subst hi;have htk:L.take D.slots.length=L:=jAl (by omega);simp -implicitDefEqProofs [htk,e5,zJ];exact mv [4] 0 (by rfl) (by simp)
end Go.Proofs.YtolkhapmieigcaaGreatDoor
namespace Go.Proofs.YtolkhapmieigcaaGreatDoor
open Go Go.Abs
section
variable{p:Prg}{F:Int}{d:Dfn}{us:wI}{s:XS}{r:Val×XS}
theorem zRU(hb:RP 80 [.ptr 0 0,.agg (zJ d),.sl us.length (zT us)] p F s (.agg (zN r.1)) r.2)(hf:r.2.fail=0) :
 my 79 [.ptr 0 0,.ptr 1 0,.ptr 2 0] (eS p F s++dA d us) (.agg (zN r.1)) (eS p F r.2++dA d us):=by
 have hP:=eP p;refine zH Tryz.func79 rfl qEm (rs:=[.cell 4 3 true]) (by kernel_rfl) ?_
 (conv in zXP=>cbv)
 simp[eS,hP];refine mr (hb.ret hf) [0] (by simp[eS,hP]) ?_;simp[eS,hP,zN];exact mv [0,1,2] 0 (by rfl) (by simp[zN])
theorem zRT(hb:RP 80 [.ptr 0 0,.agg (zJ d),.sl us.length (zT us)] p F s (.agg (zN r.1)) r.2)(hf:r.2.fail≠0) :
 aK Tryz.prog 79 [.ptr 0 0,.ptr 1 0,.ptr 2 0] (eS p F s++dA d us) fun o U'=>o=.pan (zKi r.2.fail)/\U'[1]?=some (.box (zJ d))/\U'[2]?=some (.box [.sl us.length (zT us)]):=by
 have hP:=eP p;refine u5 Tryz.func79 rfl qEm (rs:=[.cell 4 3 true]) (by kernel_rfl) ?_
 (conv in zXP=>cbv);unfold wpF
 simp[eS,hP];refine zB9 (hb.pan hf) [0] (by decide) (by simp[eS,hP]) (by simp) fun τ=>?_
 refine⟨rfl,?_,?_⟩
 .rw[lR (by simp) (by simp)];rfl
 .rw[lR (by simp) (by simp)];rfl
end
def qFC:Nat->Option wE:=fun|2=>k_ [0,0,0,0,0,0,0,0,2,2,0,0,0,0]|_=>none
def zEZ(p:Prg)(id:Id):A:=.tup [.agg (zJ ((qG p.defs id).getD .zero)),bl ((qG p.defs id).isSome&&dG ((qG p.defs id).getD .zero))]
theorem zKd(p:Prg)(id:Id):my 66 [.agg (zI p),.agg (zS id)] [] (zEZ p id) []:=by
 have hP:=eP p;have hdf:=lO p id;unfold zEZ;unfold dI at hdf;generalize (qG p.defs id).getD .zero=d at *
 generalize (qG p.defs id).isSome=b at *
 refine ml qFC [14] [] [] [.cell 4 31 true,.slot 5] Tryz.func66 (by kernel_rfl) ?_
 (conv in kH _ _ _=>cbv)
 simp[hP,zS];refine mu hdf (by simp[zI,zS]) ?_;simp[zJ];refine⟨_,_,zM (l:=[(4,.ptr 0 0),(6,.rptr (zJ d)),(7,bl b)]) (U':=[.box (kz0.map jP)]) [2] 1 (by simp) (by simp) (by simp) (by simp[zJ]),?_⟩;cases b
 .simp[zJ];exact zB 0 (by simp[zJ])
 .by_cases h0:d.kind=0
  .simp[zJ,h0];exact zB 0 (by simp[zJ,h0,dG])
  .by_cases h1:d.kind=1
   .simp[zJ,h0,h1];exact zB 0 (by simp[zJ,h1,dG])
   .simp[zJ,h0,h1];exact zB 0 (by simp[zJ,h0,h1,dG])
def bF(p:Prg)(id:Id)(vs:wI)(fuel:Int):A:=match qG p.defs id with
 |none=>.tup [.agg (zN vz),int 0,int 6]
 |some d=>if dG d=false then .tup [.agg (zN vz),int 0,int 6]else if vs.length≠d.slots.length then .tup [.agg (zN vz),int 0,int 1]
  else if aM p (d.slots.map Slt.typ) vs=false then .tup [.agg (zN vz),int 0,int 1]else zHd fuel (eM p d vs fuel)
theorem zM2{p:Prg}{hs:wQ}(hf:Fit p hs)(id:Id)(vs:wI){gas fuel:Int}(hG:fuel=max gas 0)(hfu:fuel<=90000)(hz:∀v∈vs,qY v<=256/\eW v<=24) :
 my 32 [.agg (zI p),.agg (zS id),.sl vs.length (zT vs),int gas] [] (bF p id vs fuel) []:=by
 have hP:=eP p;have hbo:=zKd p id;refine mq [] [.cell 8 3 true,.slot 9,.slot 10] Tryz.func32 (by kernel_rfl) ?_
 (conv in kq _ _=>cbv)
 simp[hP,zS];refine mu hbo (by simp[zI,zS,zEZ]) ?_;cases hd:qG p.defs id with
 |none =>
  rw[show bF p id vs fuel=.tup [.agg (zN vz),int 0,int 6] by simp[bF,hd]];simp[zEZ,hd,zJ];exact zB 0 (by simp[zN,qT,qJ,zX])
 |some d =>
 have hdm:=(yD hd).1;obtain⟨s1,s6,_,snd,sty⟩:=hf.slots d hdm;cases hb:dG d with
 |false =>
  rw[show bF p id vs fuel=.tup [.agg (zN vz),int 0,int 6] by simp[bF,hd,hb]];simp[zEZ,hd,hb,zJ];exact zB 0 (by simp[zN,qT,qJ,zX])
 |true =>
 simp[zEZ,hd,hb,zJ];by_cases hl:vs.length=d.slots.length
 .have hfit:=fun i (hi:i<d.slots.length)=>zIv p d.slots[i].typ (vs[i]'(by omega)) (hz _ (jA0 _)).1 (hz _ (jA0 _)).2
  simp[hl];intro hls;refine qI (S:=Nat) (fun i=>[(3,int gas),(4,.ptr 0 0),(6,.ptr 2 0),(8,.ptr 3 0),(11,.ptr 4 0),(32,.sl d.slots.length (qP d.slots)),(33,int d.slots.length),(34,int i)])
   (fun i=>[.box (zI p),.box (zS id),.box [.sl vs.length (zT vs)],.box [int 0,int 0,.nil],.box (zJ d)]) (fun i=>i<=d.slots.length/\∀j (hj:j<i) (hj':j<d.slots.length),cE p d.slots[j].typ (vs[j]'(by omega))=true) (fun i=>d.slots.length-i) 0 ⟨by omega,fun j hj=>by omega⟩
   (mw [0,1,2,3,4] 0 (by rfl) (by simp[hP,zJ,zS,hl])) ?_
  rintro i ⟨hi,hft⟩;by_cases hil:i<d.slots.length
  .have hiv:i<vs.length:=by omega
   have hdr:=qW hil;have hdv:=jE hiv;have hfi:=hfit i hil;cases hfv:cE p d.slots[i].typ vs[i]with
   |false =>
    rw[hfv]at hfi;have hfl:aM p (d.slots.map Slt.typ) vs=false:=by
     cases hq:aM p (d.slots.map Slt.typ) vs with
     |false=>rfl
     |true =>
      have:=x7 hq i (by simpa using hil) hiv;rw[jB,hfv]at this;cases this
    rw[show bF p id vs fuel=.tup [.agg (zN vz),int 0,int 1] by simp[bF,hd,hb,hl,hfl]];simp[hP,hil,hiv,hdr,hdv,aF,zJ];refine qC hfi (by simp[hP,zF,zN]) (by simp) ?_;simp;exact zB 0 (by simp[zN,qT,qJ,zX])
   |true =>
    rw[hfv]at hfi;simp[hP,hil,hiv,hdr,hdv,aF,zJ];refine qC hfi (by simp[hP,zF,zN]) (by simp) ?_;simp;refine zO (i+1) ⟨hil,fun j hj hj'=>?_⟩ (by omega) (mw [0,1,2,3,4] 0 (by rfl) (by simp[hP,zJ,zZ hil hls]));by_cases hji:j=i
    .subst hji;exact hfv
    .exact hft j (by omega) hj'
  .have hie:i=d.slots.length:=by omega
   subst hie;have hfl:aM p (d.slots.map Slt.typ) vs=true:=zCY (by simpa using hl) fun j h1 h2=>by rw[jB];exact hft j (by simpa using h1) (by simpa using h1)
   rw[show bF p id vs fuel=zHd fuel (eM p d vs fuel) by simp[bF,hd,hb,hl,hfl]];have hty:TyL p (d.slots.map Slt.typ) vs:=TyL.of (by simpa using hl) fun j hj=>by rw[jB];exact zOg hf (sty _ (jA0 _)) _ (hft j (by omega) (by omega))
   have hV:=EnvT.args hty fun v hv=>(hz v hv).1
   have hIh:=zOb (F:=fuel) hf.bods (zHp hf) (by omega) fuel.toNat (by omega);have hca:=zKe hIh d vs hl s6 (s:=⟨fuel,0,cS p d.slots [],[]⟩) rfl (fun _=>⟨_,_,hf.bods _ d hd hb,hV,zE4 snd vs hl⟩) ⟨by simp only;omega,by simp only;omega⟩;change RP _ _ _ _ _ (.agg (zN (eM p d vs fuel).1)) (eM p d vs fuel).2 at hca;have hsz:(eM p d vs fuel).2.fail=0->qY (eM p d vs fuel).1<=256:=fun h0=>by
    have he:eM p d vs fuel=bC p 1 fuel.toNat d.body (fK d.slots vs) ⟨fuel,0,cS p d.slots []++[d.id],[]⟩:=by unfold eM bU;simp
    rw[he]at h0 ⊢;exact(hIh.snd _ _ _ _ _ (hf.bods _ d hd hb) hV h0).2
   generalize eM p d vs fuel=r at *
   have hdo:=zYW (d:=d) (us:=vs) hG rfl hsz (zRU hca) (zRT hca);simp[hP];refine mr hdo [4,2] (by simp[zJ,hP]) ?_;by_cases h0:r.2.fail=0
   all_goals
    simp[zHd,h0,zN];exact zB 0 (by simp)
 .rw[show bF p id vs fuel=.tup [.agg (zN vz),int 0,int 1] by simp[bF,hd,hb,hl]];have hl':¬((vs.length:Int)=d.slots.length):=by omega
  simp[hl']
  intros
  exact zB 0 (by simp[zN,qT,qJ,zX])
theorem zH1{p:Prg}{hs:wQ}(hf:Fit p hs)(id:Id)(vs:wI)(fuel:Int)(hfu0:0<=fuel)(hfu:fuel<=90000)(hz:∀v∈vs,qY v<=256/\eW v<=24) :
 my 32 [.agg (zI p),.agg (zS id),.sl vs.length (zT vs),int fuel] [] (bF p id vs fuel) []:=zM2 hf id vs (by omega) hfu hz
end Go.Proofs.YtolkhapmieigcaaGreatDoor
namespace Go.Proofs.YtolkhapmieigcaaGreatDoor
open Go.Abs
mutual
def zCb(p:Prg)(m:Nat):Exp->Prop
 | .mk _ k _ r _ ks _=>(k=3->∃(j:Nat) (d:Dfn),j<m/\p.defs[j]?=some d/\qG p.defs r=some d)/\ks.length<=32768/\zQb p m ks
def zQb(p:Prg)(m:Nat):List Exp->Prop
 |[]=>True
 |e::l=>zCb p m e/\zQb p m l
end
theorem zCc(p:Prg)(m:Nat):∀l:wH,zQb p m l↔∀e∈l,zCb p m e
 |[]=>by simp[zQb]
 |e::l=>by simp[zQb,zCc p m l]
variable{p:Prg}{ns:List ByteArray}
theorem zZy{m:Nat}{i:Id}{k n:Int}{r:Id}{u:Typ}{ks:wH}(hk:k≠3)(hn:ks.length<=32768)(h:∀e∈ks,zCb p m e):zCb p m (.mk i k n r u ks ns):=by simp only[zCb,zCc];exact⟨fun h=>(hk h).elim,hn,h⟩
def Acy(p:Prg):Prop:=∀(j:Nat) (d:Dfn),p.defs[j]?=some d->zCb p j d.body
def Nn(n:Int):Prop:=-1<=n/\n<=1099511627776
abbrev Kn:=List (wC×Int)
def kn(ns:Kn):List (wC×A):=ns.map fun x=>(x.1,int x.2)
def Gd(ns:Kn):Prop:=∀x∈ns,Nn x.2
theorem Gd.nil:Gd []:=fun x hx=>by simp at hx
theorem Gd.find{ks:wC}{v:A}:∀{ns:Kn},Gd ns->bN ks (kn ns)=some v->∃n:Int,v=int n/\Nn n
 |x::es,h,hv=>by
  simp only[kn,jAd,bN]at hv;split at hv
  .cases hv;exact⟨_,rfl,h x (by simp)⟩
  .exact Gd.find (ns:=es) (fun y hy=>h y (by simp[hy])) hv
theorem Gd.put{ks:wC}{n:Int}(hn:Nn n):∀{ns:Kn},Gd ns->∃ms,lS ks (int n) (kn ns)=kn ms/\Gd ms
 |[],_=>⟨[(ks,n)],rfl,fun x hx=>by rw[jAi.1 hx];exact hn⟩
 |y::es,h=>by
  have h2:Gd es:=fun z hz=>h z (by simp[hz])
  obtain⟨ms,e,hm⟩:=Gd.put (ks:=ks) hn h2;simp only[kn,jAd,lS];by_cases c:y.1=ks
  .rw[if_pos c];exact⟨(ks,n)::es,rfl,fun x hx=>by
    rcases jA1.1 hx with rfl|hx
    .exact hn
    .exact h2 x hx⟩
  .rw[if_neg c];refine⟨y::ms,?_,fun x hx=>?_⟩
   .simp only[kn]at e;rw[e];rfl
   .rcases jA1.1 hx with rfl|hx
    .exact h x (by simp)
    .exact hm x hx
@[simp]theorem qOF{rf g}(l:Kn):(kn l).map (fun p=>(p.1,vw rf g p.2))=kn l:=by simp[kn]
@[simp]theorem qNP{rf g}(l:Kn):(kn l).map (fun p=>(p.1,nrm0 (vw rf g p.2)))=kn l:=by simp[kn]
@[simp]theorem qJ9{rf g}(l:Kn):(kn l).map ((fun p=>(p.1,nrm0 p.2))∘fun p:wC×A=>(p.1,vw rf g p.2))=kn l:=by simp[kn]
theorem zM9:uT (.int .i64 0) true none=.tup [int 0,.lit (.bool false)]:=rfl
def mo(p:Prg)(es:Kn):St:=[.mp true 3 (kn es),.box [.map 0],.box [.clo 68 [] [.ptr 2 0,.rptr (zI p),.ptr 3 0]],.box [.clo 67 [] [.ptr 1 0,.ptr 2 0]]]
def OfR(p:Prg)(d:Dfn)(es:Kn):Prop:=∃(n:Int) (es':Kn),Nn n/\Gd es'/\my 67 [.agg (zJ d),.ptr 1 0,.ptr 2 0] (mo p es) (int n) (mo p es')
def BdR(p:Prg)(e:Exp)(es:Kn):Prop:=∃(n:Int) (es':Kn),Nn n/\Gd es'/\my 68 [.agg (zG e),.ptr 2 0,.rptr (zI p),.ptr 3 0] (mo p es) (int n) (mo p es')
theorem zZ1{d:Dfn}{es:Kn}(hg:Gd es)(hb:BdR p d.body es):OfR p d es:=by
 have hP:=eP p;cases hf:bN [d.id.a,d.id.b,d.id.c] (kn es)with
 |some v =>
  obtain⟨n,rfl,hn⟩:=hg.find hf;refine⟨n,es,hn,hg,?_⟩;refine mq [] [.slot 4] Tryz.func67 (by kernel_rfl) ?_
  (conv in kq _ _=>cbv)
  simp -implicitDefEqProofs [mo,zJ,hf,hP];exact mv [0,1,2,3] 0 (by rfl) (by simp[mo,hP])
 |none =>
  obtain⟨n,es',hn,hg',hr⟩:=hb;obtain⟨ms,hms,hgm⟩:=Gd.put (ks:=[d.id.a,d.id.b,d.id.c]) hn hg';have hms':lS [d.id.a,d.id.b,d.id.c] (.lit (.int .i64 n)) (kn es')=kn ms:=hms;refine⟨n,ms,hn,hgm,?_⟩;refine mq [] [.slot 4] Tryz.func67 (by kernel_rfl) ?_
  (conv in kq _ _=>cbv)
  simp -implicitDefEqProofs [mo,zJ,hf,hP,zM9];refine mr hr [0,1,2,3] (by simp[mo,hP,zG]) ?_;simp -implicitDefEqProofs [mo,hP,hms'];exact mv [0,1,2,3] 0 (by rfl) (by simp[mo,hP])
variable{x:Int}
theorem qJr(h:0<=x):0<=bJ x:=by unfold bJ;split<;>(try split)<;>omega
structure BdS where
 j:Nat
 n:Int
 r:Int
 es:Kn
def mxI(r b:Int):Int:=if r<b then b else r
def goB(ch:Bool)(F:Nat->Kn->Int×Kn):Nat->Nat->Int->Int->Kn->Option (Int×Int)×Kn
 | 0,_,n,r,es=>(some (n,r),es)
 |m+1,j,n,r,es=>if (F j es).1<0 then (none,(F j es).2)else if ch=true/\0<j then goB ch F m (j+1) n (mxI r (F j es).1) (F j es).2 else goB ch F m (j+1) (bJ (n+(F j es).1)) r (F j es).2
def Zn(n:Int):Prop:=0<=n/\n<=1099511627776
theorem Zn.clip(h:0<=x):Zn (bJ x):=by unfold Zn bJ;split<;>(try split)<;>omega
theorem Zn.mx{y:Int}(h:Zn x)(k:Zn y):Zn (mxI x y):=by unfold mxI;split<;>assumption
theorem zIP{ch:Bool}{F:Nat->Kn->Int×Kn}{L:Nat}(hF:∀j es,j<L->Gd es->Nn (F j es).1/\Gd (F j es).2):∀(m j:Nat) (n r:Int) (es:Kn),j+m<=L->Zn n->Zn r->Gd es ->
 Gd (goB ch F m j n r es).2/\∀x,(goB ch F m j n r es).1=some x->Zn x.1/\Zn x.2
 | 0,j,n,r,es,_,hn,hr,hg=>⟨hg,fun x hx=>by cases hx;exact⟨hn,hr⟩⟩
 |m+1,j,n,r,es,hj,hn,hr,hg=>by
  obtain⟨h1,h2⟩:=hF j es (by omega) hg;simp only[goB];by_cases c:(F j es).1<0
  .rw[if_pos c];exact⟨h2,fun x hx=>by cases hx⟩
  .rw[if_neg c];have hz:Zn (F j es).1:=⟨by omega,h1.2⟩;split
   .exact zIP hF m (j+1) _ _ _ (by omega) hn (hr.mx hz) h2
   .exact zIP hF m (j+1) _ _ _ (by omega) (Zn.clip (by have:=hn.1;omega)) hr h2
theorem Nn.neg:Nn (-1):=⟨by omega,by omega⟩
theorem Zn.nn(h:Zn x):Nn x:=⟨by have:=h.1;omega,h.2⟩
theorem zUi{i:Id}{k n:Int}{r:Id}{u:Typ}{ks:wH}{es:Kn}(hlen:ks.length<=32768)(hg:Gd es)
 {F:Nat->Kn->Int×Kn}(hF:∀(j:Nat)(h:j<ks.length)(es:Kn),Gd es->Nn (F j es).1/\Gd (F j es).2/\my 68 [.agg (zG ks[j]),.ptr 2 0,.rptr (zI p),.ptr 3 0] (mo p es) (int (F j es).1) (mo p (F j es).2))
 (ch:Bool)(hch:ch=(decide (k=5)||decide (k=10)))(G:Option (Int×Int)×Kn)(hG:goB ch F ks.length 0 1 0 es=G)(res:Int)(es':Kn)
 (h1:G.1=none->res = -1/\es'=G.2)
 (h2:k≠3->k≠12->∀x,G.1=some x->res=bJ (x.1+x.2)/\es'=G.2)
 (h3:k=12->res = -1/\es'=G.2)
 (h4:k=3->∀x,G.1=some x->∃d b,qG p.defs r=some d/\Nn b/\my 67 [.agg (zJ d),.ptr 1 0,.ptr 2 0] (mo p G.2) (int b) (mo p es')/\res=if b<0 then -1 else bJ (x.1+b)) :
 my 68 [.agg (zG (.mk i k n r u ks ns)),.ptr 2 0,.rptr (zI p),.ptr 3 0] (mo p es) (int res) (mo p es'):=by
 have hP:=eP p;refine mq [] [.slot 5] Tryz.func68 (by kernel_rfl) ?_
 (conv in kq _ _=>cbv)
 have hcase:(ch=true/\k=5)\/(ch=true/\k=10)\/(ch=false/\k≠5/\k≠10):=by
  by_cases c5:k=5
  .exact .inl ⟨by simp[hch,c5],c5⟩
  .by_cases c10:k=10
   .exact .inr (.inl ⟨by simp[hch,c10],c10⟩)
   .exact .inr (.inr ⟨by simp[hch,c5,c10],c5,c10⟩)
 have hk5:k=5->k≠3/\k≠12:=by omega
 have hk10:k=10->k≠3/\k≠12:=by omega
 clear hch;rcases hcase with ⟨rfl,c5⟩|⟨rfl,c5⟩|⟨rfl,c5,c10⟩
 .simp -implicitDefEqProofs [mo,zG,hP,c5];intro _;refine qI (S:=BdS) (fun s=>[(1,.ptr 2 0),(2,.rptr (zI p)),(3,.ptr 3 0),(4,.ptr 4 0),(6,int s.n),(7,int s.r),(8,bl true),(23,.sl ks.length (qM ks)),(24,int ks.length),(25,int s.j)])
   (fun s=>mo p s.es++[AObj.box (zG (.mk i k n r u ks ns))]) (fun s=>s.j<=ks.length/\Zn s.n/\Zn s.r/\Gd s.es/\goB true F (ks.length-s.j) s.j s.n s.r s.es=G) (fun s=>ks.length-s.j) ⟨0,1,0,es⟩
   ⟨jB0 _,by simp[Zn],by simp[Zn],hg,hG⟩ ?_ ?_
  .exact mw [0,1,2,3,4] 0 (by rfl) (by simp[mo,zG,hP,c5])
  rintro⟨j,a,b,es1⟩ ⟨hj,ha,hb,hg1,hgo⟩
  dsimp only at *
  by_cases h:j<ks.length
  .obtain⟨f1,f2,f3⟩:=hF j h es1 hg1;have hw:=yK j (by omega);rw[show ks.length-j=(ks.length-(j+1))+1 by omega]at hgo;simp only[goB]at hgo;generalize (F j es1).1=b1 at *
   generalize (F j es1).2=es2 at *
   simp -implicitDefEqProofs [mo,h,yB h,hP];refine mr f3 [0,1,2,3] (by simp[mo,hP]) ?_;simp -implicitDefEqProofs [hP];by_cases cb:b1<0
   .rw[if_pos cb]at hgo;obtain⟨rfl,rfl⟩:=h1 (by rw[<-hgo]);simp -implicitDefEqProofs [cb];exact ke [0,1,2,3] 0 (by rfl) (by simp[mo,hP,<-hgo]) (by simp)
   .rw[if_neg cb]at hgo;have hz:Zn b1:=⟨by omega,f1.2⟩;by_cases cj:0<j
    .rw[if_pos (by simp[cj])]at hgo;simp -implicitDefEqProofs [cb,cj];exact zO (⟨j+1,a,mxI b b1,es2⟩:BdS) ⟨h,ha,hb.mx hz,f2,hgo⟩ (by dsimp only;omega) (mw [0,1,2,3,4] 0 (by rfl) (by simp[mo,hP,hw,mxI]))
    .rw[if_neg (by simp[cj])]at hgo;have hwa:IntKind.i64.wrap (a+b1)=a+b1:=IntWalk.i64_in _ (by have:=ha.1;have:=ha.2;have:=hz.1;have:=hz.2;omega);simp -implicitDefEqProofs [cb,cj,hwa];refine mu (iR (a+b1)) (by simp) ?_;simp -implicitDefEqProofs;exact zO (⟨j+1,bJ (a+b1),b,es2⟩:BdS) ⟨h,Zn.clip (by have:=ha.1;have:=hz.1;omega),hb,f2,hgo⟩ (by dsimp only;omega) (mw [0,1,2,3,4] 0 (by rfl) (by simp[mo,hP,hw]))
  .have hj':j=ks.length:=by omega
   subst hj';rw[jBn]at hgo;simp only[goB]at hgo;have hwa:IntKind.i64.wrap (a+b)=a+b:=IntWalk.i64_in _ (by have:=ha.1;have:=ha.2;have:=hb.1;have:=hb.2;omega);obtain⟨rfl,rfl⟩:=h2 (hk5 c5).1 (hk5 c5).2 (a,b) (by rw[<-hgo]);have hbn:¬b<0:=by have:=hb.1;omega
   simp -implicitDefEqProofs [mo,hP,zG,c5,hbn,hwa];refine mu (iR (a+b)) (by simp) ?_;simp -implicitDefEqProofs;exact ke [0,1,2,3] 0 (by rfl) (by simp[mo,hP,<-hgo]) (by simp)
 .simp -implicitDefEqProofs [mo,zG,hP,c5];intro _;refine qI (S:=BdS) (fun s=>[(1,.ptr 2 0),(2,.rptr (zI p)),(3,.ptr 3 0),(4,.ptr 4 0),(6,int s.n),(7,int s.r),(8,bl true),(23,.sl ks.length (qM ks)),(24,int ks.length),(25,int s.j)])
   (fun s=>mo p s.es++[AObj.box (zG (.mk i k n r u ks ns))]) (fun s=>s.j<=ks.length/\Zn s.n/\Zn s.r/\Gd s.es/\goB true F (ks.length-s.j) s.j s.n s.r s.es=G) (fun s=>ks.length-s.j) ⟨0,1,0,es⟩
   ⟨jB0 _,by simp[Zn],by simp[Zn],hg,hG⟩ ?_ ?_
  .exact mw [0,1,2,3,4] 0 (by rfl) (by simp[mo,zG,hP,c5])
  rintro⟨j,a,b,es1⟩ ⟨hj,ha,hb,hg1,hgo⟩
  dsimp only at *
  by_cases h:j<ks.length
  .obtain⟨f1,f2,f3⟩:=hF j h es1 hg1;have hw:=yK j (by omega);rw[show ks.length-j=(ks.length-(j+1))+1 by omega]at hgo;simp only[goB]at hgo;generalize (F j es1).1=b1 at *
   generalize (F j es1).2=es2 at *
   simp -implicitDefEqProofs [mo,h,yB h,hP];refine mr f3 [0,1,2,3] (by simp[mo,hP]) ?_;simp -implicitDefEqProofs [hP];by_cases cb:b1<0
   .rw[if_pos cb]at hgo;obtain⟨rfl,rfl⟩:=h1 (by rw[<-hgo]);simp -implicitDefEqProofs [cb];exact ke [0,1,2,3] 0 (by rfl) (by simp[mo,hP,<-hgo]) (by simp)
   .rw[if_neg cb]at hgo;have hz:Zn b1:=⟨by omega,f1.2⟩;by_cases cj:0<j
    .rw[if_pos (by simp[cj])]at hgo;simp -implicitDefEqProofs [cb,cj];exact zO (⟨j+1,a,mxI b b1,es2⟩:BdS) ⟨h,ha,hb.mx hz,f2,hgo⟩ (by dsimp only;omega) (mw [0,1,2,3,4] 0 (by rfl) (by simp[mo,hP,hw,mxI]))
    .rw[if_neg (by simp[cj])]at hgo;have hwa:IntKind.i64.wrap (a+b1)=a+b1:=IntWalk.i64_in _ (by have:=ha.1;have:=ha.2;have:=hz.1;have:=hz.2;omega);simp -implicitDefEqProofs [cb,cj,hwa];refine mu (iR (a+b1)) (by simp) ?_;simp -implicitDefEqProofs;exact zO (⟨j+1,bJ (a+b1),b,es2⟩:BdS) ⟨h,Zn.clip (by have:=ha.1;have:=hz.1;omega),hb,f2,hgo⟩ (by dsimp only;omega) (mw [0,1,2,3,4] 0 (by rfl) (by simp[mo,hP,hw]))
  .have hj':j=ks.length:=by omega
   subst hj';rw[jBn]at hgo;simp only[goB]at hgo;have hwa:IntKind.i64.wrap (a+b)=a+b:=IntWalk.i64_in _ (by have:=ha.1;have:=ha.2;have:=hb.1;have:=hb.2;omega);obtain⟨rfl,rfl⟩:=h2 (hk10 c5).1 (hk10 c5).2 (a,b) (by rw[<-hgo]);have hbn:¬b<0:=by have:=hb.1;omega
   simp -implicitDefEqProofs [mo,hP,zG,c5,hbn,hwa];refine mu (iR (a+b)) (by simp) ?_;simp -implicitDefEqProofs;exact ke [0,1,2,3] 0 (by rfl) (by simp[mo,hP,<-hgo]) (by simp)
 .simp -implicitDefEqProofs [mo,zG,hP,c5,c10];intro _;refine qI (S:=BdS) (fun s=>[(1,.ptr 2 0),(2,.rptr (zI p)),(3,.ptr 3 0),(4,.ptr 4 0),(6,int s.n),(7,int s.r),(8,bl false),(23,.sl ks.length (qM ks)),(24,int ks.length),(25,int s.j)])
   (fun s=>mo p s.es++[AObj.box (zG (.mk i k n r u ks ns))]) (fun s=>s.j<=ks.length/\Zn s.n/\Zn s.r/\Gd s.es/\goB false F (ks.length-s.j) s.j s.n s.r s.es=G) (fun s=>ks.length-s.j) ⟨0,1,0,es⟩
   ⟨jB0 _,by simp[Zn],by simp[Zn],hg,hG⟩ ?_ ?_
  .exact mw [0,1,2,3,4] 0 (by rfl) (by simp[mo,zG,hP,c5,c10])
  rintro⟨j,a,b,es1⟩ ⟨hj,ha,hb,hg1,hgo⟩
  dsimp only at *
  by_cases h:j<ks.length
  .obtain⟨f1,f2,f3⟩:=hF j h es1 hg1;have hw:=yK j (by omega);rw[show ks.length-j=(ks.length-(j+1))+1 by omega]at hgo;simp only[goB]at hgo;generalize (F j es1).1=b1 at *
   generalize (F j es1).2=es2 at *
   simp -implicitDefEqProofs [mo,h,yB h,hP];refine mr f3 [0,1,2,3] (by simp[mo,hP]) ?_;simp -implicitDefEqProofs [hP];by_cases cb:b1<0
   .rw[if_pos cb]at hgo;obtain⟨rfl,rfl⟩:=h1 (by rw[<-hgo]);simp -implicitDefEqProofs [cb];exact ke [0,1,2,3] 0 (by rfl) (by simp[mo,hP,<-hgo]) (by simp)
   .rw[if_neg cb]at hgo;have hz:Zn b1:=⟨by omega,f1.2⟩;rw[if_neg (by simp)]at hgo;have hwa:IntKind.i64.wrap (a+b1)=a+b1:=IntWalk.i64_in _ (by have:=ha.1;have:=ha.2;have:=hz.1;have:=hz.2;omega);simp -implicitDefEqProofs [cb,hwa];refine mu (iR (a+b1)) (by simp) ?_;simp -implicitDefEqProofs;exact zO (⟨j+1,bJ (a+b1),b,es2⟩:BdS) ⟨h,Zn.clip (by have:=ha.1;have:=hz.1;omega),hb,f2,hgo⟩ (by dsimp only;omega) (mw [0,1,2,3,4] 0 (by rfl) (by simp[mo,hP,hw]))
  .have hj':j=ks.length:=by omega
   subst hj';rw[jBn]at hgo;simp only[goB]at hgo;have hwa:IntKind.i64.wrap (a+b)=a+b:=IntWalk.i64_in _ (by have:=ha.1;have:=ha.2;have:=hb.1;have:=hb.2;omega);have hbn:¬b<0:=by have:=hb.1;omega
   subst hgo
   dsimp only at *
   by_cases c12:k=12
   .obtain⟨rfl,rfl⟩:=h3 c12;simp -implicitDefEqProofs [mo,hP,zG,c12];exact mv [0,1,2,3] 0 (by rfl) (by simp[mo,hP])
   .by_cases c3:k=3
    .obtain⟨d,b',hfd,hbn',hret,hres⟩:=h4 c3 (a,b) rfl;have hwa':IntKind.i64.wrap (a+b')=a+b':=IntWalk.i64_in _ (by have:=ha.1;have:=ha.2;have:=hbn'.1;have:=hbn'.2;omega);have hdf:=lO p r;unfold dI at hdf;rw[hfd]at hdf;simp -implicitDefEqProofs [mo,hP,zG,c3];refine mu hdf (by simp[hP,zS]) ?_;simp -implicitDefEqProofs [hP];refine mr hret [0,1,2,3] (by simp[mo,hP]) ?_;by_cases cb:b'<0
     .rw[if_pos cb]at hres;subst hres;simp -implicitDefEqProofs [mo,hP,zG,c3,cb];exact mv [0,1,2,3] 0 (by rfl) (by simp[mo,hP])
     .rw[if_neg cb]at hres;subst hres;simp -implicitDefEqProofs [mo,hP,zG,c3,cb,hwa'];refine mu (iR (a+b')) (by simp) ?_;simp -implicitDefEqProofs;exact mv [0,1,2,3] 0 (by rfl) (by simp[mo,hP])
    .obtain⟨rfl,rfl⟩:=h2 c3 c12 (a,b) rfl;simp -implicitDefEqProofs [mo,hP,zG,c3,c12,hbn,hwa];refine mu (iR (a+b)) (by simp) ?_;simp -implicitDefEqProofs;exact mv [0,1,2,3] 0 (by rfl) (by simp[mo,hP])
theorem zW6{p:Prg}{m:Nat}(hof:∀(j:Nat)(d:Dfn),j<m->p.defs[j]?=some d->∀es,Gd es->OfR p d es):∀(e:Exp),zCb p m e->∀es,Gd es->BdR p e es
 | .mk i k n r u ks ns,hlow,es,hg=>by
  have hkid:∀(j:Nat) (h:j<ks.length) (es:Kn),Gd es->BdR p ks[j] es:=fun j h=>zW6 hof ks[j] (by
   simp only[zCb,zCc]at hlow;exact hlow.2.2 _ (jA0 h))
  obtain⟨hcall,hlen,_⟩:(k=3->∃(j:Nat) (d:Dfn),j<m/\p.defs[j]?=some d/\qG p.defs r=some d)/\ks.length<=32768/\zQb p m ks:=by simpa only[zCb]using hlow
  clear hlow;obtain⟨F,hF⟩:∃F:Nat->Kn->Int×Kn,∀(j:Nat) (h:j<ks.length) (es:Kn),Gd es->Nn (F j es).1/\Gd (F j es).2/\my 68 [.agg (zG ks[j]),.ptr 2 0,.rptr (zI p),.ptr 3 0] (mo p es) (int (F j es).1) (mo p (F j es).2):=by
   have hx:∀(j:Nat) (es:Kn),∃y:Int×Kn,∀h:j<ks.length,Gd es->Nn y.1/\Gd y.2/\my 68 [.agg (zG ks[j]),.ptr 2 0,.rptr (zI p),.ptr 3 0] (mo p es) (int y.1) (mo p y.2):=fun j es=>by
    by_cases h:j<ks.length
    .by_cases hg:Gd es
     .obtain⟨a,b,h1,h2,h3⟩:=hkid j h es hg;exact⟨(a,b),fun _ _=>⟨h1,h2,h3⟩⟩
     .exact⟨(0,[]),fun _ h=>(hg h).elim⟩
    .exact⟨(0,[]),fun h'=>(h h').elim⟩
   exact⟨fun j es=>(hx j es).choose,fun j h es hg=>(hx j es).choose_spec h hg⟩
  obtain⟨ch,hch⟩:∃ch,ch=(decide (k=5)||decide (k=10)):=⟨_,rfl⟩;obtain⟨G,hG⟩:∃G,goB ch F ks.length 0 1 0 es=G:=⟨_,rfl⟩;obtain⟨hGg,hGz⟩:Gd G.2/\∀x,G.1=some x->Zn x.1/\Zn x.2:=by rw[<-hG];exact zIP (L:=ks.length) (fun j es h hg=>⟨(hF j h es hg).1,(hF j h es hg).2.1⟩) _ _ _ _ _ (by omega) (by simp[Zn]) (by simp[Zn]) hg
  have walk:=fun res es'=>zUi (i:=i) (n:=n) (r:=r) (u:=u) (ns:=ns) hlen hg hF ch hch G hG res es'
  cases hg1:G.1 with
  |none =>
   refine⟨-1,G.2,Nn.neg,hGg,walk _ _ (fun _=>⟨rfl,rfl⟩) (fun _ _ x hx=>?_) (fun _=>⟨rfl,rfl⟩) fun _ x hx=>?_⟩
   .rw[hg1]at hx;cases hx
   .rw[hg1]at hx;cases hx
  |some x =>
   obtain⟨z1,z2⟩:=hGz x hg1;by_cases c3:k=3
   .obtain⟨j,d,hj,hd,hfd⟩:=hcall c3;obtain⟨b,es',hb,hg',hr⟩:=hof j d hj hd G.2 hGg;refine⟨if b<0 then -1 else bJ (x.1+b),es',?_,hg',walk _ _ (fun h=>?_) (fun h=>(h c3).elim) (fun h=>?_) fun _ y hy=>?_⟩
    .split
     .exact Nn.neg
     .exact(Zn.clip (by have:=z1.1;omega)).nn
    .rw[hg1]at h;cases h
    .omega
    .rw[hg1]at hy;cases hy;exact⟨d,b,hfd,hb,hr,rfl⟩
   .by_cases c12:k=12
    .refine⟨-1,G.2,Nn.neg,hGg,walk _ _ (fun _=>⟨rfl,rfl⟩) (fun _ h=>(h c12).elim) (fun _=>⟨rfl,rfl⟩) fun h=>(c3 h).elim⟩
    .refine⟨bJ (x.1+x.2),G.2,(Zn.clip (by have:=z1.1;have:=z2.1;omega)).nn,hGg,walk _ _ (fun h=>?_) (fun _ _ y hy=>?_) (fun h=>(c12 h).elim) fun h=>(c3 h).elim⟩
     .rw[hg1]at h;cases h
     .rw[hg1]at hy;cases hy;exact⟨rfl,rfl⟩
 termination_by e=>SizeOf.sizeOf e
 decreasing_by
  have:=List.sizeOf_lt_of_mem (jA0 h);simp only[Exp.mk.sizeOf_spec];omega
theorem zZB(hA:Acy p):∀(j:Nat) (d:Dfn),p.defs[j]?=some d->∀es,Gd es->OfR p d es:=by
 intro j;induction j using Nat.strongRecOn with
 |ind j ih=>exact fun d hd es hg=>zZ1 hg (zW6 (fun j' d' hj=>ih j' hj d') d.body (hA j d hd) es hg)
noncomputable def zTW:{k:K//K.chg [18] [] (zV Tryz.prog Tryz.f29 z7 [])=k}:=⟨_,by conv=>lhs;cbv⟩
theorem zYk:ky Tryz.f29 zTW.1:=m_ (by kernel_rfl)
theorem zVt(hA:Acy p)(id:Id):∃n:Int,-1<=n/\my 29 [.agg (zI p),.agg (zS id)] [] (int n) []:=by
 have hP:=eP p;have hbo:=zKd p id;unfold zEZ at hbo;cases hf:qG p.defs id with
 |none =>
  rw[hf]at hbo;refine⟨-1,by omega,?_⟩;refine zH Tryz.func29 rfl zYk (rs:=[.slot 4]) (by kernel_rfl) ?_
  simp only[zTW]
  simp -implicitDefEqProofs [hP,zS];refine mu hbo (by simp[hP,zS]) ?_;simp -implicitDefEqProofs;exact zB 0 (by simp)
 |some d =>
  rw[hf]at hbo;simp only[jBt,Option.isSome_some,jCp]at hbo;cases hb:dG d with
  |false =>
   rw[hb]at hbo;refine⟨-1,by omega,?_⟩;refine zH Tryz.func29 rfl zYk (rs:=[.slot 4]) (by kernel_rfl) ?_
   simp only[zTW]
   simp -implicitDefEqProofs [hP,zS];refine mu hbo (by simp[hP,zS]) ?_;simp -implicitDefEqProofs;exact zB 0 (by simp)
  |true =>
   rw[hb]at hbo;obtain⟨j,hj⟩:=List.mem_iff_getElem?.1 (jCy hf);obtain⟨n,es',hn,_,hr⟩:=zZB hA j d hj [] Gd.nil;refine⟨n,hn.1,?_⟩;refine zH Tryz.func29 rfl zYk (rs:=[.slot 4]) (by kernel_rfl) ?_
   simp only[zTW]
   simp -implicitDefEqProofs [hP,zS];refine mu hbo (by simp[hP,zS]) ?_;simp -implicitDefEqProofs;refine⟨_,_,zM (l:=[(2,.rptr (zI p)),(5,.ptr 0 0)]) (U':=[.box (zJ d)]) [2] 1 (by simp) (by simp) (by simp) (by simp[hP]),?_⟩;simp -implicitDefEqProofs [hP];refine mr hr [1,2,3,4] (by simp[mo,hP,kn]) ?_;simp -implicitDefEqProofs;exact zB 0 (by simp)
theorem zCK(x:Int):aW x x=0:=by simp[aW]
mutual
theorem zCM:∀v:Val,mO v v=0
 | .mk k n l=>by rw[mO,zCK,zCK,zCK,if_neg (by simp[orI])];exact zFh l
theorem zFh:∀l:wI,aL l l=0
 |[]=>by rw[aL]
 |v::l=>by rw[aL,zCM v,if_neg (by simp)];exact zFh l
end
inductive OneOf:List Val->List (List Val)->Prop
 |nil:OneOf [] []
 |cons {v:Val} {x:List Val} {t:List Val} {l:List (List Val)} (h:v∈x) (ht:OneOf t l):OneOf (v::t) (x::l)
theorem zKt:∀(l acc:List wI) (t:wI),t∈l.foldl eG acc->∃h∈acc,∃s,t=h++s/\OneOf s l
 |[],acc,t,ht=>⟨t,ht,[],by simp,.nil⟩
 |a::l,acc,t,ht=>by obtain⟨h,hh,s,rfl,hs⟩:=zKt l (eG acc a) t ht;simp only[eG,List.mem_flatMap,jA9]at hh;obtain⟨g,hg,x,hx,rfl⟩:=hh;exact⟨g,hg,x::s,by simp,.cons hx hs⟩
theorem zLe{l:List wI}{t:wI}(h:t∈yI l):OneOf t l:=by obtain⟨g,hg,s,rfl,hs⟩:=zKt l [[]] t h;simp at hg;subst hg;simpa using hs
inductive BndB(N:Nat):List Sz->List (List Val)->Prop
 |nil:BndB N [] []
 |cons {k:Sz} {x:List Val} {z:List Sz} {l:List (List Val)} (h:∀v∈x,(qY v:Int)<=k.b/\eW v<=N) (h0:0<=k.b) (hz:BndB N z l):BndB N (k::z) (x::l)
def zHg:List Sz->Int
 |[]=>0
 |k::z=>k.b+zHg z
theorem zJm{N:Nat}:∀{z:List Sz} {l:List wI} {t:wI},BndB N z l->OneOf t l->(j3 t:Int)<=zHg z/\gF t<=N
 |_,_,_,.nil,.nil=>by simp[j3,gF,zHg]
 |_,_,_,.cons h _ hz,.cons hv ht=>by have h1:=zJm hz ht;have h2:=h _ hv;simp only[j3,gF,zHg];omega
theorem zTj:∀(z:List Sz) (a b:Int),(nU a b z).e=0->(nU a b z).b=b+zHg z
 |[],a,b,_=>by simp[nU,zHg]
 |k::z,a,b,h=>by
  simp only[nU]at h⊢;split at h
  .simp at h
  .rename_i hn;rw[if_neg hn,zTj z _ _ h];simp only[zHg];omega
theorem zNU:∀(z:List Sz) (a b:Int),b<=(gM a b z).b/\∀k∈z,1+k.b<=(gM a b z).b
 |[],a,b=>by simp[gM]
 |k::z,a,b=>by
  have:=zNU z (a+k.a) (max b (1+k.b));simp only[gM];refine⟨by omega,fun x hx=>?_⟩;rcases jA1.1 hx with rfl|hx
  .omega
  .exact this.2 x hx
theorem zHu{N:Nat}:∀{z:List Sz} {l:List wI} (i:Int),BndB N z l->∀v∈yC i l,∃k∈z,(qY v:Int)<=1+k.b/\eW v<=N+1
 |_,_,i,.nil,v,h=>by simp[yC]at h
 |_,_,i,.cons (k:=k) h h0 hz,v,hv=>by
  simp only[yC,jA6,jA9]at hv;rcases hv with ⟨x,hx,rfl⟩|hv
  .have:=h x hx;refine⟨k,by simp,?_⟩;have e1:qY (.mk 3 i [x])=1+j3 [x]:=i9 _;have e2:eW (.mk 3 i [x])=gF [x]+1:=nY _;have e3:j3 [x]=qY x+0:=by simp only[j3]
   have e4:gF [x]=max (eW x) 0:=by simp only[gF]
   rw[e1,e2,e3,e4];omega
  .obtain⟨k',hk',h'⟩:=zHu (i+1) hz v hv;exact⟨k',by simp[hk'],h'⟩
theorem zNO{N:Nat}{k:Sz}{x:wI}(h:∀v∈x,(qY v:Int)<=k.b/\eW v<=N)(h0:0<=k.b):∀j,BndB N (List.replicate j k) (List.replicate j x)/\zHg (List.replicate j k)=j*k.b
 | 0=>⟨.nil,by simp[zHg]⟩
 |j+1=>by
  have:=zNO h h0 j;refine⟨.cons h h0 this.1,?_⟩;simp only[List.replicate_succ,zHg,this.2];have:((j+1:Nat):Int)*k.b=j*k.b+k.b:=by rw[jDd,Int.add_mul];simp
  omega
theorem zOe{k:Sz}(h:(gN k).e=0)(ha:(gN k).a≠0):(gN k).b=k.b:=by
 unfold gN at *
 split at h
 .rename_i h1;simp at h;exact(h1 h).elim
 .split at h
  .simp at h
  .rename_i h1 h2;rw[if_neg h1,if_neg h2]at ha ⊢;simp only at ha ⊢;rw[if_neg ha]
theorem zHo{p:Prg}{m:Int}{n:Nat}(hm:0<=m/\m<=64)(ih:∀t,(jH p m n t).e=0->∀v∈bW p m n t,(qY v:Int)<=(jH p m n t).b/\eW v<=n):∀l:List Slt,(∀s∈l,(jH p m n s.typ).e=0) ->
 BndB n (l.map fun s=>jH p m n s.typ) (l.map fun s=>bW p m n s.typ)
 |[],_=>.nil
 |s::l,h=>.cons (ih _ (h s (by simp))) ((eF p m hm n s.typ) (h s (by simp))).2.2.1 (zHo hm ih l fun x hx=>h x (by simp[hx]))
theorem zEQ(p:Prg)(m:Int)(hm:0<=m/\m<=64):∀(n:Nat) (t:Typ),(jH p m n t).e=0->∀v∈bW p m n t,(qY v:Int)<=(jH p m n t).b/\eW v<=n
 | 0,t,_,v,hv=>by simp[bW]at hv
 |n+1,t,h,v,hv=>by
  have ih:=zEQ p m hm n;have hlen:=mU p m hm.1 (n+1) t h;have hpos:0<(bW p m (n+1) t).length:=List.length_pos_of_mem hv;have ha:(jH p m (n+1) t).a≠0:=by omega
  clear hlen hpos;unfold jH at h ha ⊢;unfold bW at hv;by_cases hvt:cI p t=false
  .rw[if_pos hvt]at h;simp at h
  .rw[if_neg hvt]at h ha ⊢;by_cases h0:t.k=0
   .rw[if_pos h0]at hv ⊢;simp only[m9,jA9]at hv;obtain⟨i,_,rfl⟩:=hv;simp[i9,nY,Val.kids,j3,gF]
   .rw[if_neg h0]at h ha hv ⊢;by_cases h1:t.k=1
    .rw[if_pos h1]at hv ⊢;simp only[jA1,jAr,or_false]at hv;rcases hv with rfl|rfl<;>simp[i9,nY,Val.kids,j3,gF]
    .rw[if_neg h1]at h ha hv ⊢;by_cases h2:t.k=2
     .rw[if_pos h2]at h ha hv ⊢;rw[zOe h ha];have hfe:=pM h;have ih2:=ih (t.kids.headD Typ.zero);have hok:=eF p m hm n (t.kids.headD Typ.zero);generalize jH p m n (t.kids.headD Typ.zero)=kz at *
      generalize bW p m n (t.kids.headD Typ.zero)=X at *
      have hle:=hfe.1;have hke:kz.e=0:=by
       unfold dK at hle;split at hle
       .rename_i hh;simpa using hle
       .rename_i hh;simpa using hh
      obtain⟨_,_,b0,b1⟩:=hok hke;simp only[zJa,List.mem_flatMap,jA9,jC6]at hv;obtain⟨j,hj,tt,htt,rfl⟩:=hv;have hr:=zNO (N:=n) (fun v hv=>ih2 hke v hv) b0 j;have ho:=zJm hr.1 (zLe htt);rw[hr.2]at ho;have hj2:j=0\/(j=1/\1<=m)\/(j=2/\2<=m):=by split at hj<;>omega
      simp only[i9,nY,Val.kids];unfold dK;rw[if_neg (by simp[hke])];refine⟨?_,by omega⟩;rcases hj2 with rfl|⟨rfl,hj2⟩|⟨rfl,hj2⟩
      .split
       .simp only;omega
       .split<;>simp only<;>omega
      .rw[if_neg (by omega)];split<;>simp only<;>omega
      .rw[if_neg (by omega),if_neg (by omega)];simp only;omega
     .rw[if_neg h2]at h ha hv ⊢;rw[zOe h ha];have e1:=(pM h).1;have e3:rQ ((dfn p t.id).slots.map fun s=>jH p m n s.typ)=0:=by
       by_cases hz:rQ ((dfn p t.id).slots.map fun s=>jH p m n s.typ)=0
       .exact hz
       .exact absurd e1 (by simp[aP,hz])
      have hb:=zHo hm ih (dfn p t.id).slots (fun s hs=>iH e3 _ (jA9.2 ⟨s,hs,rfl⟩));have hvt2:cI p t=true:=by simpa using hvt
      have e5:=zBw hvt2 h0 h1 h2;unfold uB at hv;rcases e5 with e5|e5
      .rw[if_pos e5]at hv;have ee:aP (decide ((dfn p t.id).kind=0)) ((dfn p t.id).slots.map fun s=>jH p m n s.typ)=nU 1 1 ((dfn p t.id).slots.map fun s=>jH p m n s.typ):=by simp[aP,e3,e5]
       rw[ee]at e1 ⊢;rw[zTj _ _ _ e1];simp only[sB,jA9]at hv;obtain⟨tt,htt,rfl⟩:=hv;have ho:=zJm hb (zLe htt);simp only[i9,nY,Val.kids];omega
      .rw[if_neg (by omega),if_pos e5]at hv;have ee:aP (decide ((dfn p t.id).kind=0)) ((dfn p t.id).slots.map fun s=>jH p m n s.typ)=gM 0 1 ((dfn p t.id).slots.map fun s=>jH p m n s.typ):=by simp[aP,e3,e5]
       rw[ee];obtain⟨k,hk,h3,h4⟩:=zHu 0 hb v hv;have:=(zNU ((dfn p t.id).slots.map fun s=>jH p m n s.typ) 0 1).2 k hk;omega
theorem zBr{β:Type}(cf : β->β->Int)(l:List β):(bQ cf l).Perm l:=List.mergeSort_perm _ _
theorem zT8(l:wI):my 142 [.sl l.length (zT l)] [] (int (xH 0 l)) []:=by
 refine mq [] [.slot 2] Tryz.func142 (by kernel_rfl) ?_
 (conv in kq _ _=>cbv)
 simp -implicitDefEqProofs;intro hl;refine qI (S:=Nat) (fun i=>[(3,int (xH 0 (l.take i))),(6,.sl l.length (zT l)),(7,int l.length),(8,int i)]) (fun s=>[]) (fun i=>i<=l.length) (fun i=>l.length-i) 0 (by simp)
  (mw [] 0 (by rfl) (by simp[xH])) ?_
 intro i hi;simp -implicitDefEqProofs;refine jI (fun h=>?_) (fun h=>?_)<;>simp at h
 .simp -implicitDefEqProofs [h,jE h];refine mu (zIx l[i]) (by simp[zN]) ?_;simp -implicitDefEqProofs;refine zO (i+1) h (by omega) (mw [] 0 (by rfl) (by simp[zZ h hl,zIp h]))
 .have:i=l.length:=by omega
  subst this;simp -implicitDefEqProofs;exact zB 0 (by simp)
theorem zPr(a b:wI):my 76 [.sl a.length (zT a),.sl b.length (zT b)] [] (int (rH a b)) []:=by
 refine mq [] [.slot 4] Tryz.func76 (by kernel_rfl) ?_
 (conv in kq _ _=>cbv)
 simp -implicitDefEqProofs;refine mu (zT8 a) (by simp) ?_;simp -implicitDefEqProofs;refine mu (zT8 b) (by simp) ?_;simp -implicitDefEqProofs;refine mu (dH (xH 0 a) (xH 0 b)) (by simp) ?_;simp -implicitDefEqProofs;refine mu (vF a b fun x _ y _=>zIF x y) (by simp) ?_;simp -implicitDefEqProofs;refine mu (zO2 [aW (xH 0 a) (xH 0 b),aL a b]) (by simp) ?_;simp -implicitDefEqProofs;exact zB 0 (by simp[rH])
def qHo:Go.Shelf.Ren:=⟨fun | 6=>75 | 15=>98 | 14=>141 | 28=>163 | 29=>164 | 20=>181 | 21=>182 | 22=>183 | 23=>184 | 24=>185 | 25=>186 | 26=>187 | 27=>188 | 46=>213 | 49=>214 | 50=>215 | 57=>230 | 47=>198 | 48=>199|n=>n,fun | 22=>79 | 24=>82 | 25=>146 | 3=>3 | 39=>166 | 0=>0 | 53=>225 | 55=>227 | 4=>4 | 46=>219 | 45=>218 | 50=>136 | 5=>5 | 9=>9 | 66=>260 | 70=>264 | 76=>282 | 77=>283|n=>n,fun n=>n⟩
theorem zXg:Go.Proofs.SlLaysF.n6 Tryz.prog qHo:={
 mixed:=by kernel_rfl,
 f6:=⟨Tryz.f75.name,by decide,Tryz.func75.trans (congrArg some (by kernel_rfl))⟩,
 f14:=⟨Tryz.f141.name,by decide,Tryz.func141.trans (congrArg some (by kernel_rfl))⟩,
 f15:=Tryz.func98.trans (congrArg some (by kernel_rfl)),
 f20:=⟨Tryz.f181.name,by decide,Tryz.func181.trans (congrArg some (by kernel_rfl))⟩,
 f21:=⟨Tryz.f182.name,by decide,Tryz.func182.trans (congrArg some (by kernel_rfl))⟩,
 f22:=⟨Tryz.f183.name,by decide,Tryz.func183.trans (congrArg some (by kernel_rfl))⟩,
 f23:=⟨Tryz.f184.name,by decide,Tryz.func184.trans (congrArg some (by kernel_rfl))⟩,
 f24:=⟨Tryz.f185.name,by decide,Tryz.func185.trans (congrArg some (by kernel_rfl))⟩,
 f25:=⟨Tryz.f186.name,by decide,Tryz.func186.trans (congrArg some (by kernel_rfl))⟩,
 f26:=⟨Tryz.f187.name,by decide,Tryz.func187.trans (congrArg some (by kernel_rfl))⟩,
 f27:=⟨Tryz.f188.name,by decide,Tryz.func188.trans (congrArg some (by kernel_rfl))⟩,
 f28:=Tryz.func163.trans (congrArg some (by kernel_rfl)),
 f29:=Tryz.func164.trans (congrArg some (by kernel_rfl)),
 f46:=⟨Tryz.f213.name,by decide,Tryz.func213.trans (congrArg some (by kernel_rfl))⟩,
 f47:=Tryz.func198.trans (congrArg some (by kernel_rfl)),
 f48:=Tryz.func199.trans (congrArg some (by kernel_rfl)),
 f49:=⟨Tryz.f214.name,by decide,Tryz.func214.trans (congrArg some (by kernel_rfl))⟩,
 f50:=⟨Tryz.f215.name,by decide,Tryz.func215.trans (congrArg some (by kernel_rfl))⟩,
 f57:=⟨Tryz.f230.name,by decide,Tryz.func230.trans (congrArg some (by kernel_rfl))⟩,
 t0:=Tryz.underlying0,
 a0:=Tryz.isAgg0,
 z0:=Tryz.sizeOf0,
 v0:=Tryz.zeroValue0,
 t3:=Tryz.underlying3,
 a3:=Tryz.isAgg3,
 z3:=Tryz.sizeOf3,
 v3:=Tryz.zeroValue3,
 t4:=Tryz.underlying4,
 a4:=Tryz.isAgg4,
 z4:=Tryz.sizeOf4,
 v4:=Tryz.zeroValue4,
 t5:=Tryz.underlying5,
 a5:=Tryz.isAgg5,
 z5:=Tryz.sizeOf5,
 v5:=Tryz.zeroValue5,
 t9:=Tryz.underlying9,
 a9:=Tryz.isAgg9,
 z9:=Tryz.sizeOf9,
 v9:=Tryz.zeroValue9,
 t22:=Tryz.underlying79,
 a22:=Tryz.isAgg79,
 z22:=Tryz.sizeOf79,
 v22:=Tryz.zeroValue79,
 a24:=Tryz.isAgg82,
 z24:=Tryz.sizeOf82,
 t25:=Tryz.underlying146,
 a25:=Tryz.isAgg146,
 z25:=Tryz.sizeOf146,
 v25:=Tryz.zeroValue146,
 t39:=Tryz.underlying166,
 a39:=Tryz.isAgg166,
 z39:=Tryz.sizeOf166,
 v39:=Tryz.zeroValue166,
 t45:=Tryz.underlying218,
 a45:=Tryz.isAgg218,
 z45:=Tryz.sizeOf218,
 v45:=Tryz.zeroValue218,
 t46:=Tryz.underlying219,
 a46:=Tryz.isAgg219,
 z46:=Tryz.sizeOf219,
 v46:=Tryz.zeroValue219,
 t50:=Tryz.underlying136,
 a50:=Tryz.isAgg136,
 z50:=Tryz.sizeOf136,
 v50:=Tryz.zeroValue136,
 t53:=Tryz.underlying225,
 a53:=Tryz.isAgg225,
 z53:=Tryz.sizeOf225,
 v53:=Tryz.zeroValue225,
 t55:=Tryz.underlying227,
 a55:=Tryz.isAgg227,
 z55:=Tryz.sizeOf227,
 v55:=Tryz.zeroValue227,
 t66:=Tryz.underlying260,
 a66:=Tryz.isAgg260,
 z66:=Tryz.sizeOf260,
 v66:=Tryz.zeroValue260,
 t70:=Tryz.underlying264,
 a70:=Tryz.isAgg264,
 z70:=Tryz.sizeOf264,
 v70:=Tryz.zeroValue264,
 t76:=Tryz.underlying282,
 a76:=Tryz.isAgg282,
 z76:=Tryz.sizeOf282,
 v76:=Tryz.zeroValue282,
 t77:=Tryz.underlying283,
 a77:=Tryz.isAgg283,
 z77:=Tryz.sizeOf283,
 v77:=Tryz.zeroValue283}
theorem zU6:∀args w,(callFunc 76 args).run Tryz.prog w=.ok (.enter 76 args) w:=enters_of Tryz.func76 (by kernel_rfl) rfl
theorem qAb:zC9 Tryz.prog 75 76 (fun l:wI=>[.sl l.length (zT l)]) rH :=
 qAa tM.ord zPr fun α _ enc h1 cf hO blk off cap d w hcmp hH hblk hsz =>
  Go.Proofs.Any.slices_SortFunc zXg enc h1 cf hO 76 #[] blk off cap d w zU6 hcmp hH hblk hsz
theorem qGC:∀(p:Option Addr) (cap:Nat) (fv:Value) (w:World),Calls Tryz.prog 75 #[.slice p 0 cap,fv] w fun e w'=>e=.returned (.tuple #[])/\w'=w :=
 fun p cap fv w=>Go.Proofs.AnyF.slices_SortFunc_none {zXg with} p cap fv w
theorem zJZ(l:List wI):(l.flatMap fun l=>[A.sl l.length (zT l)])=jG l:=by
 induction l with
 |nil=>rfl
 |cons v l ih=>simp[ih]
theorem zJ2(l:List wI)(hmx:l.length<4611686018427387904):my 75 [.row 0 l.length,.clo 76 [] []] [.row false 82 1 l.length (jG l)] (.tup []) [.row false 82 1 l.length (jG (bQ rH l))]:=by
 have:=zG1 (sz:=1) (by omega) (fun _=>rfl) (fun b=>by simp) tM.ord 82 qAb qGC l hmx
 simpa only[zJZ]using this
def bY(p:Prg):Int->List Slt->Int×Int
 |n,[]=>(n,0)
 |n,s::l=>if s.most<0\/64<s.most then (0,1)else if (size p s.most s.typ).e≠0 then (0,(size p s.most s.typ).e)else if n*(size p s.most s.typ).a > 4096 then (0,4)else bY p (n*(size p s.most s.typ).a) l
def dN(p:Prg)(l:List Slt):List wI:=l.map fun s=>bW p s.most 24 s.typ
def jW(p:Prg)(l:List Slt):List wI×Int:=if (bY p 1 l).2≠0 then ([],(bY p 1 l).2)else (bQ rH (yI (dN p l)),0)
theorem zCQ(p:Prg):∀(l:List Slt) (n:Int),0<=n->n<=4096->0<=(bY p n l).1/\(bY p n l).1<=4096
 |[],n,h0,h1=>⟨h0,h1⟩
 |s::l,n,h0,h1=>by
  unfold bY;split
  .simp
  split
  .simp
  split
  .simp
  .rename_i g1 g2 g3;have:=eF p s.most (by omega) 24 s.typ (by simpa[size]using g2);exact zCQ p l _ (Int.mul_nonneg h0 this.1) (by omega)
theorem oL(p:Prg):∀(l:List Slt) (n:Int),(bY p n l).2=0->(bY p n l).1=n*(((dN p l).map List.length).foldl (· * ·) 1:Nat)/\∀s∈l,0<=s.most/\s.most<=64/\(size p s.most s.typ).e=0
 |[],n,h=>by simp[bY,dN]
 |s::l,n,h=>by
  unfold bY at h⊢;split at h
  .simp at h
  split at h
  .simp at h;contradiction
  split at h
  .simp at h
  .rename_i g1 g2 g3;rw[if_neg g1,if_neg g2,if_neg g3];have g2:(size p s.most s.typ).e=0:=by simpa using g2
   obtain⟨k1,k2⟩:=oL p l _ h;have hl:=mU p s.most (by omega) 24 s.typ g2;have hh:∀(l:wA) (x y:Nat),l.foldl (· * ·) (x*y)=x*l.foldl (· * ·) y:=by
    intro l;induction l with
    |nil=>intro x y;rfl
    |cons a l ih=>intro x y;simp only[jAw,Nat.mul_assoc,ih]
   refine⟨?_,fun x hx=>?_⟩
   .rw[k1];simp only[dN,jAd,jAw,Nat.one_mul];have:=hh ((l.map fun s=>bW p s.most 24 s.typ).map List.length) (bW p s.most 24 s.typ).length 1;rw[Nat.mul_one]at this;rw[this,Int.natCast_mul,<-Int.mul_assoc];unfold size;rw[hl]
   .rcases jA1.1 hx with rfl|hx
    .exact⟨by omega,by omega,g2⟩
    .exact k2 x hx
theorem zRP(p:Prg)(hs:Sml p)(l:List Slt):my 71 [.agg (zI p),.sl l.length (qP l)] [] (.tup [int (bY p 1 l).1,int (bY p 1 l).2]) []:=by
 refine mq [] [.slot 4,.slot 5] Tryz.func71 (by kernel_rfl) ?_
 (conv in kq _ _=>cbv)
 simp -implicitDefEqProofs [zI];intro hl;refine qI (S:=Nat×Int) (fun s=>[(2,.ptr 0 0),(6,int s.2),(11,.sl l.length (qP l)),(12,int l.length),(13,int s.1)])
  (fun s=>[.box (zI p)]) (fun s=>s.1<=l.length/\0<=s.2/\s.2<=4096/\bY p 1 l=bY p s.2 (l.drop s.1)) (fun s=>l.length-s.1) (0,1) (by simp)
  (mw [0] 0 (by rfl) (by simp[zI])) ?_
 rintro⟨i,n⟩ ⟨hi,hn0,hn1,ho⟩;simp only at hi hn0 hn1 ho;by_cases h:i<l.length
 .have hd:l.drop i=l[i]::l.drop (i+1):=jB6 h;rw[hd,bY]at ho;by_cases h1:l[i].most<0
  .simp -implicitDefEqProofs [h,qW h,aF,h1];exact zB 0 (by simp[ho,h1])
  by_cases h2:64<l[i].most
  .simp -implicitDefEqProofs [h,qW h,aF,h1,h2];exact zB 0 (by simp[ho,h2])
  rw[if_neg (by omega)]at ho;simp -implicitDefEqProofs [h,qW h,aF,h1,h2,zI];refine mu (zMW p hs l[i].most (by omega) l[i].typ) (by simp[zI,zF,qX,szR]) ?_;have hok:=eF p l[i].most (by omega) 24 l[i].typ;by_cases h3:(size p l[i].most l[i].typ).e=0
  .rw[if_neg (by simp[h3])]at ho;have hok:=hok h3;change 0<=(size p l[i].most l[i].typ).a/\(size p l[i].most l[i].typ).a<=4096/\_ at hok;have hab0:0<=n*(size p l[i].most l[i].typ).a:=Int.mul_nonneg hn0 hok.1;have hab1:n*(size p l[i].most l[i].typ).a<=4096*4096:=Int.mul_le_mul hn1 hok.2.1 hok.1 (by decide);have hw:=qF (n*(size p l[i].most l[i].typ).a) (by omega);by_cases h4:4096<n*(size p l[i].most l[i].typ).a
   .rw[if_pos h4]at ho;simp -implicitDefEqProofs [szR,h3,hw,h4];exact zB 0 (by simp[ho])
   .rw[if_neg h4]at ho;simp -implicitDefEqProofs [szR,h3,hw,h4];exact zO (i+1,n*(size p l[i].most l[i].typ).a) ⟨h,hab0,by simp only;omega,ho⟩ (by simp only;omega) (mw [0] 0 (by rfl) (by simp[zI,zZ h hl]))
  .rw[if_pos h3]at ho;simp -implicitDefEqProofs [szR,h3];exact zB 0 (by simp[ho])
 .have hi:i=l.length:=by omega
  subst hi;rw[List.drop_length,bY]at ho;simp -implicitDefEqProofs;exact zB 0 (by simp[ho])
theorem zAd(p:Prg)(hs:Sml p)(l:List Slt)(hl6:l.length<=1000000):my 31 [.agg (zI p),.sl l.length (qP l)] [] (.tup [.sl (jW p l).1.length (jG (jW p l).1),int (jW p l).2]) []:=by
 refine mj [37] [] [] [.slot 4,.slot 5] Tryz.func31 (by kernel_rfl) ?_
 (conv in kH _ _ _=>cbv)
 simp -implicitDefEqProofs [zI];refine mu (zRP p hs l) (by simp[zI]) ?_;by_cases h:(bY p 1 l).2=0
 .have e:jW p l=(bQ rH (yI (dN p l)),0):=by simp[jW,h]
  obtain⟨hk,hall⟩:=oL p l 1 h;have hle:=zCQ p l 1 (by decide) (by decide);have hPl:(yI (dN p l)).length<=4096:=by rw[yI,nT];simp only[jAc,jB4];omega
  have hpl:(dN p l).length=l.length:=by simp[dN]
  have hpg:∀i (h:i<l.length),(dN p l)[i]?=some (bW p l[i].most 24 l[i].typ):=fun i h=>by simp[dN,h]
  rw[e];generalize dN p l=L at hPl hpl hpg;simp -implicitDefEqProofs [h];intro hl;refine qI (S:=Nat) (fun i=>[(2,.ptr 0 0),(8,.row 1 i),(21,.sl l.length (qP l)),(22,int l.length),(23,int i)])
   (fun i=>[.box (zI p),.row false 82 1 i (jG (L.take i))]) (fun i=>i<=l.length) (fun i=>l.length-i) 0 (by simp)
   ((jS (t:=8) (by simp) 82 1).trans (mw [0,1] 0 (by rfl) (by simp[zI]))) ?_
  intro i hi;by_cases hil:i<l.length
  .have hiL:i<L.length:=by omega
   obtain⟨q1,q2,q3⟩:=hall l[i] (jA0 hil);have hc:=zXZ p hs l[i].most ⟨q1,q2⟩ 24 l[i].typ q3;have hLi:=hpg i hil;rw[jA2 hiL]at hLi;rw[<-jAy hLi]at hc;have htL:jG (L.take (i+1))=jG (L.take i)++[.sl L[i].length (zT L[i])]:=by rw[jA7 hiL,rA];rfl
   simp -implicitDefEqProofs [hil,qW hil,aF,zI];refine mr hc [] (by simp[zI,zF]) ?_;simp -implicitDefEqProofs [rY];refine⟨⟨by simp[maxLen];omega,by omega⟩,?_⟩;exact zO (i+1) hil (by omega) (mw [0,1] 1 (by rfl) (by simp[zI,htL,zZ hil hl]))
  .have hi:i=l.length:=by omega
   subst hi;have htk:L.take l.length=L:=jAl (by omega);simp -implicitDefEqProofs [htk];refine⟨jO [(8,.sl L.length (jG L))],[],mw [] 1 (by rfl) (by simp[hpl]),?_⟩;simp -implicitDefEqProofs;refine mu (zAq L) (by simp) ?_;simp -implicitDefEqProofs;refine mr (zMr 139 [] [.rptr [.sl L.length (jG L)]] zI7 (by simp) (by simp) (yI L) (zIY _ _ rfl (by omega)) (by simp[maxLen];omega) (by omega)) [] (by simp) ?_;simp -implicitDefEqProofs;refine mr (zJ2 (yI L) (by omega)) [0] (by simp) ?_;simp -implicitDefEqProofs;exact zB 1 (by simp[bQ])
 .have e:jW p l=([],(bY p 1 l).2):=by simp[jW,h]
  simp -implicitDefEqProofs [h,e];exact zB 1 (by simp)
theorem zVM(l:wG):(aT l).length<=l.length:=by
 have key:∀(l m:wG),(l.foldl iV m).length<=m.length+l.length:=by
  intro l;induction l with
  |nil=>intro m;simp
  |cons x l ih =>
   intro m;have h1:=ih (iV m x);have h2:(iV m x).length<=m.length+1:=by
    clear ih h1;induction m with
    |nil=>simp[iV]
    |cons y m ih=>unfold iV;split<;>(try split)<;>simp<;>omega
   rw[jAw,jAc];omega
 rw[i7]
 simpa using key l []
section
variable{p:Prg}{d:Dfn}{id:Id}{vs:wI}
theorem zJN(hd:qG p.defs id=some d)(hk:dU d.kind=true)(vs:wI) :
 (∀fuel,j8 p id vs fuel=⟨vz,[],[],1⟩/\bF p id vs fuel=.tup [.agg (zN vz),int 0,int 1]) \/
 (∀fuel,j8 p id vs fuel=zFw (eM p d vs fuel)/\bF p id vs fuel=zHd fuel (eM p d vs fuel)):=by
 have hb:=rN hk;by_cases hl:vs.length=d.slots.length
 .cases hft:aM p (d.slots.map Slt.typ) vs with
  |true=>exact .inr fun fuel=>⟨by simp[j8,hd,hk,hl,hft],by simp[bF,hd,hb,hl,hft]⟩
  |false=>exact .inl fun fuel=>⟨by simp[j8,hd,hk,hl,hft],by simp[bF,hd,hb,hl,hft]⟩
 .exact .inl fun fuel=>⟨by simp[j8,hd,hk,hl],by simp[bF,hd,hb,hl]⟩
theorem zUp(hd:qG p.defs id=some d)(hk:dU d.kind=true)(vs:wI){fuel:Int}(hf:0<=fuel) :
 ∃n:Int,bF p id vs fuel=.tup [.agg (zN (j8 p id vs fuel).v),int n,int (j8 p id vs fuel).e]/\((j8 p id vs fuel).e=0->((j8 p id vs fuel).ns.length:Int)<=n):=by
 rcases zJN hd hk vs with h|h<;>obtain⟨h1,h2⟩:=h fuel
 .rw[h1,h2];exact⟨0,rfl,fun h=>by cases h⟩
 .rw[h1,h2];have hc:=zTm p d vs fuel;have hu:=zVM (eM p d vs fuel).2.ns;by_cases h0:(eM p d vs fuel).2.fail=0
  .exact⟨fuel-(eM p d vs fuel).2.fuel,by simp[zHd,zFw,h0],fun _=>by show ((aT (eM p d vs fuel).2.ns).length:Int)<=_;omega⟩
  .exact⟨0,by simp[zHd,zFw,h0],fun h=>(h0 h).elim⟩
end
theorem vO:∀(L:List wI) (acc:List wI) (t:wI) (v:Val),t∈L.foldl eG acc->v∈t->(∃l∈L,v∈l)\/∃s∈acc,v∈s
 |[],acc,t,v,ht,hv=>.inr ⟨t,ht,hv⟩
 |a::L,acc,t,v,ht,hv=>by
  rcases vO L (eG acc a) t v ht hv with ⟨l,hl,h⟩|⟨s,hs,h⟩
  .exact .inl ⟨l,jAk _ hl,h⟩
  .simp only[eG,List.mem_flatMap,jA9]at hs;obtain⟨u,hu,x,hx,rfl⟩:=hs;rcases jA6.1 h with h|h
   .exact .inr ⟨u,hu,h⟩
   .simp at h;subst h;exact .inl ⟨a,jAm ..,hx⟩
theorem zNf{L:List wI}{t:wI}{v:Val}(ht:t∈yI L)(hv:v∈t):∃l∈L,v∈l:=by
 rcases vO L [[]] t v ht hv with h|⟨s,hs,h⟩
 .exact h
 .simp at hs;subst hs;simp at h
def testD(p:Prg)(t:Id):Option Dfn:=(qG p.defs t).filter fun d=>decide (d.kind=4)
theorem bT{t:Id}{d:Dfn}(h:testD p t=some d):qG p.defs t=some d/\d.kind=4:=by unfold testD at h;rw[Option.filter_eq_some_iff]at h;exact⟨h.1,by simpa using h.2⟩
def cF(p:Prg)(t:Id):Bool:=(testD p t).isSome
def iL(p:Prg):wG:=(p.defs.filter fun d=>decide (d.kind=4)).map Dfn.id
def cT(p:Prg):wG:=bQ iM (iL p)
def trz:Trc:=⟨[],[]⟩
def bV(a b:Trc):Trc:=⟨aT (a.defs++b.defs),aT (a.nodes++b.nodes)⟩
def fV(t:Trc)(ids:wG):Bool:=ids.any fun x=>decide (x∈t.defs++t.nodes)
def aJ(p:Prg)(t:Id)(fuel:Int):Trc->List wI->Trc×Int
 |acc,[]=>(acc,0)
 |acc,x::xs=>if (j8 p t x fuel).e≠0 then (trz,(j8 p t x fuel).e)else aJ p t fuel (bV acc ⟨(j8 p t x fuel).ds,(j8 p t x fuel).ns⟩) xs
def lD(p:Prg)(t:Id)(fuel:Int):Trc×Int:=match testD p t with
 |none=>(trz,6)
 |some d=>if (jW p d.slots).2≠0 then (trz,(jW p d.slots).2)else aJ p t fuel trz (jW p d.slots).1
def yF(p:Prg)(t:Id)(fuel:Int):Trc×Int:=if cF p t then lD p t fuel else (trz,0)
def oJ(p q:Prg):wG:=nJ p.defs q.defs
def ofT(b l r:Prg)(t:Id)(fuel:Int):(Bool×Bool)×Int :=
 if (yF b t fuel).2≠0 then ((false,false),(yF b t fuel).2)
 else if (yF l t fuel).2≠0 then ((false,false),(yF l t fuel).2)
 else if (yF r t fuel).2≠0 then ((false,false),(yF r t fuel).2)
 else if (!cF b t&&!cF l t&&!cF r t)=true then ((false,false),6)
 else ((fV (bV (yF b t fuel).1 (yF r t fuel).1) (oJ b l)||(!cF b t&&cF l t&&!cF r t),fV (bV (yF b t fuel).1 (yF l t fuel).1) (oJ b r)||(!cF b t&&!cF l t&&cF r t)),0)
def uK(b l r:Prg)(fuel:Int)(t:Id):Bool:=decide ((ofT b l r t fuel).2≠0)||((ofT b l r t fuel).1.1&&(ofT b l r t fuel).1.2)
def zAE(b l r:Prg)(fuel:Int):wG:=(aT (cT b++cT l++cT r)).filter (uK b l r fuel)
theorem zOY(a b:Trc)(ids:wG):fV (bV a b) ids=(fV a ids||fV b ids):=by
 unfold fV bV;rw[Bool.eq_iff_iff];simp only[List.any_eq_true,jBc,decide_eq_true_eq,jA6,yX];constructor
 .rintro⟨x,hx,(h|h)|(h|h)⟩
  .exact .inl ⟨x,hx,.inl h⟩
  .exact .inr ⟨x,hx,.inl h⟩
  .exact .inl ⟨x,hx,.inr h⟩
  .exact .inr ⟨x,hx,.inr h⟩
 .rintro(⟨x,hx,h|h⟩|⟨x,hx,h|h⟩)
  .exact⟨x,hx,.inl (.inl h)⟩
  .exact⟨x,hx,.inr (.inl h)⟩
  .exact⟨x,hx,.inl (.inr h)⟩
  .exact⟨x,hx,.inr (.inr h)⟩
theorem zR3(t:Trc):fV t []=false:=rfl
theorem zV4(b l q:Prg)(t:Id)(fuel:Int)(h:oJ b q=[])(hh:cF q t=cF b t):(ofT b l q t fuel).1.2=false:=by
 unfold ofT;by_cases h1:(yF b t fuel).2=0
 .by_cases h2:(yF l t fuel).2=0
  .by_cases h3:(yF q t fuel).2=0
   .simp only[h1,h2,h3,ne_eq,not_true_eq_false,if_false,h,zR3,hh];cases cF b t<;>cases cF l t<;>simp
   .simp[h1,h2,h3]
  .simp[h1,h2]
 .simp[h1]
end Go.Proofs.YtolkhapmieigcaaGreatDoor
