/- spliceryref17's lists of IDs. -/
import Derived.Test.YtolkhapmieigcaaGreatDoorX10
set_option linter.unusedVariables false
set_option maxHeartbeats 8000000
set_option maxRecDepth 100000
set_option linter.unusedSimpArgs false
open Go.Proofs.Tryz
namespace Go.Proofs.YtolkhapmieigcaaGreatDoor
open Go.Abs
def zMl:K:=G [kO 2 0,kO 3 1,kMb 4 false] (Z (G [D 5 2 0,L 6 5 1,D 7 3 0,L 8 7 1,kQ 9 6 8 true] (Y 9 (G [D 10 2 0,L 11 10 1,D 12 3 0,L 13 12 1,kB 14 11 13 .lss,M 4 14] kr) ks)) (Z (G [D 15 2 1,L 16 15 1,D 17 3 1,L 18 17 1,kQ 19 16 18 true] (Y 19 (G [D 20 2 1,L 21 20 1,D 22 3 1,L 23 22 1,kB 24 21 23 .lss,M 4 24] kr) ks)) (G [D 25 2 2,L 26 25 1,D 27 3 2,L 28 27 1,kB 29 26 28 .lss,M 4 29] kr)))
theorem zSu:ky f96 zMl:=m_ (by kernel_rfl)
def zMo:K:=G [kMb 4 false] (Z (G [M 6 0,kN 7 6,M 8 1,kN 9 8,kQ 10 7 9 true] (Y 10 (G [kMb 4 false] kr) ks)) (Z (G [kMi 5 0] (K.block 0 (K.loop (Z (G [M 11 5,M 12 0,kN 13 12,kB 14 11 13 .lss] (Y 14 ks (K.exit 0))) (Z (K.block 1 (Z (K.dops [(0,0,M 17 0),(1,0,M 18 5),(2,0,kX 19 17 18 3),(3,0,J 20 19 3),(4,0,M 21 1),(5,0,M 22 5),(6,0,kX 23 21 22 3),(7,0,J 24 23 3),(8,0,⟨none,.eqs (some 25) true [.i,.i,.i] (kt 20) (kt 24)⟩)]) (Y 25 (G [kMb 4 false] kr) ks))) (K.ops [M 15 5,kBi 16 15 1 .add,M 5 16])))))) (G [kMb 4 true] kr)))
theorem zSv:ky f12 zMo:=m_ (by kernel_rfl)
def zPu:K:=G [kO 3 1,kMn 4] (G [kMn 5] (G [kMb 6 false] (Z (G [kMi 7 0] (K.block 0 (K.loop (Z (G [M 8 7,M 9 0,kN 10 9,kB 11 8 10 .lss] (Y 11 ks (K.exit 0))) (Z (K.block 1 (Z (Z (K.dops [(0,0,M 14 6),(1,0,kR 15 14),(2,0,M 16 15),(3,0,T 16 true (M 17 0)),(4,0,T 16 true (M 18 7)),(5,0,T 16 true (kX 19 17 18 3)),(6,0,T 16 true (J 20 19 3)),(7,0,T 16 true (J 21 3 3)),(8,0,T 16 true (kC 22 96 [(kt 20),(kt 21)])),(9,0,T 16 true (kR 23 22)),(10,0,kPf 24 16 23)]) (Y 24 (G [M 25 5,J 26 3 3,kd 27 32 3 1 [ki,ki,ki] [(0,3,(kt 26))],kP 28 32 3 24 25 27,M 5 28] (K.ops [kMb 6 true])) ks)) (Z (K.dops [(0,0,M 29 0),(1,0,M 30 7),(2,0,kX 31 29 30 3),(3,0,J 32 31 3),(4,0,J 33 3 3),(5,0,⟨none,.eqs (some 34) true [.i,.i,.i] (kt 32) (kt 33)⟩)]) (Y 34 (K.ops [M 35 5,M 36 0,M 37 7,kX 38 36 37 3,J 39 38 3,kd 40 32 3 1 [ki,ki,ki] [(0,3,(kt 39))],kP 41 32 3 24 35 40,M 5 41]) ks)))) (K.ops [M 12 7,kBi 13 12 1 .add,M 7 13])))))) (Z (G [M 42 6,kR 43 42] (Y 43 (K.ops [M 44 5,J 45 3 3,kd 46 32 3 1 [ki,ki,ki] [(0,3,(kt 45))],kP 47 32 3 24 44 46,M 5 47]) ks)) (G [M 48 5,M 4 48] kr)))))
theorem zVU:ky f41 zPu:=m_ (by kernel_rfl)
theorem zO1(x y:Id):my 96 [.agg (zX x),.agg (zX y)] [] (bl (bJ x y)) []:=by
 refine zG func96 rfl zSu (rs:=[.slot 4]) (by kernel_rfl) ?_;unfold zMl;by_cases h1:x.a=y.a
 .by_cases h2:x.b=y.b
  all_goals
   simp[zX,h1,h2];exact zC 0 (by simp[bJ,h1,h2])
 .simp[zX,h1];exact zC 0 (by simp[bJ,h1])
theorem zOS(a b:wG):my 12 [.sl a.length (zS a),.sl b.length (zS b)] [] (bl (decide (a=b))) []:=by
 refine zG func12 rfl zSv (rs:=[.slot 4]) (by kernel_rfl) ?_;unfold zMo;by_cases hab:a.length=b.length
 .have hab':(a.length:Int)=b.length:=by omega
  simp[hab];intro hlb;refine qH (S:=Nat) (fun i=>[(0,.sl a.length (zS a)),(1,.sl b.length (zS b)),(5,int i)]) (fun s=>[]) (fun i=>i<=a.length/\a.take i=b.take i) (fun i=>a.length-i) 0 (by simp)
   (mw [] 0 (by rfl) (by simp[hab])) ?_
  rintro i ⟨hi,hn⟩;by_cases h:i<a.length
  .have hb:i<b.length:=by omega
   simp[h,hb,qV h,qV hb];intro hl;refine jY (fun h'=>?_) (fun h'=>?_)<;>simp at h'<;>simp
   .have hx:a[i]≠b[i]:=fun e=>by rw[e]at h';simp at h'
    have hne:a≠b:=fun e=>hx (by subst e;rfl)
    exact zC 0 (by simp[hne])
   .have hx:a[i]=b[i]:=h';refine zN (i+1) ⟨h,?_⟩ (by omega) (mw [] 0 (by rfl) (by simp[zY h hl]));rw[jA8 h,jA8 hb,hn,hx]
  .have:i=a.length:=by omega
   subst this;simp;have:a=b:=by rw[jB2,hab,jB2]at hn;exact hn
   exact fun _=>zC 0 (by simp[this])
 .have hne:a≠b:=fun e=>hab (by rw[e])
  have hab':¬(a.length:Int)=b.length:=by omega
  simp[hab'];exact fun _ _=>zC 0 (by simp[hne])
def gJ(x:Id)(s:wG×Bool)(y:Id):wG×Bool:=((s.1++(if s.2=false/\bJ y x=false then [x]else []))++(if y=x then []else [y]),s.2||!bJ y x)
def zJf(x:Id)(s:wG×Bool):wG:=if s.2 then s.1 else s.1++[x]
theorem zJg(x:Id):∀(l:wG) (s:wG×Bool),(l.foldl (gJ x) s).1.length<=s.1.length+2*l.length
 |[],s=>by simp
 |y::l,s=>by
  have:=zJg x l (gJ x s y);have h2:(gJ x s y).1.length<=s.1.length+2:=by unfold gJ;simp only[jA4];split<;>split<;>simp
  simp only[jAt,jAb];omega
theorem zBQ(x:Id):∀(l:wG) (o:wG),x∉l->l.foldl (gJ x) (o,true)=(o++l,true)
 |[],o,_=>by simp
 |y::l,o,h=>by
  have hy:y≠x:=fun e=>h (by simp[e])
  have:=zBQ x l (o++[y]) (fun e=>h (by simp[e]));simp only[jAt,gJ,Bool.true_eq_false,false_and,if_false,if_neg hy,jAs,Bool.true_or,this,jAq,jCj]
theorem zMD(x:Id):∀(l:wG) (o:wG),SS l->zJf x (l.foldl (gJ x) (o,false))=o++mC l x
 |[],o,_=>by simp[zJf,mC]
 |y::l,o,h=>by
  obtain⟨h1,h2⟩:=jBx.1 h;by_cases hl:bJ y x=true
  .have hy:y≠x:=fun e=>by subst e;simp[bJ]at hl
   have:=zMD x l (o++[y]) h2;simp only[jAt,gJ,hl,Bool.not_true,Bool.or_false,if_neg hy,mC,if_true];simp only[Bool.true_eq_false,and_false,if_false,jAs];rw[this];simp
  .have hl':bJ y x=false:=by simpa using hl
   have hn:x∉l:=fun hx=>by have:=h1 x hx;rw[hl']at this;cases this
   simp only[jAt,gJ,hl',Bool.not_false,Bool.or_true,and_self,if_true,mC,jAj,if_false];by_cases hy:y=x
   .subst hy;rw[zBQ _ _ _ hn];simp[zJf]
   .rw[if_neg hy,if_neg hy,zBQ _ _ _ hn];simp[zJf]
theorem zQM(l:wG)(x:Id)(hl6:l.length<=1000):my 41 [.sl l.length (zS l),.agg (zX x)] [] (.sl (zJf x (l.foldl (gJ x) ([],false))).length (zS (zJf x (l.foldl (gJ x) ([],false))))) []:=by
 refine zG func41 rfl zVU (rs:=[.slot 4]) (by kernel_rfl) ?_;unfold zPu;simp[zX];refine qH (S:=Nat) (fun i=>[(0,.sl l.length (zS l)),(3,.ptr 0 0),(5,.row 1 ((l.take i).foldl (gJ x) ([],false)).1.length),(6,bl ((l.take i).foldl (gJ x) ([],false)).2),(7,int i)]) (fun i=>[.box (zX x),.row false 32 3 ((l.take i).foldl (gJ x) ([],false)).1.length (zS ((l.take i).foldl (gJ x) ([],false)).1)]) (fun i=>i<=l.length) (fun i=>l.length-i) 0 (by simp)
  ((jS (t:=5) (by simp) 32 3).trans (mw [0,1] 0 (by rfl) (by simp[zX]))) ?_
 intro i hi;have hmx:l.length<=maxLen:=by simp[maxLen];omega
 have hsl:=zJg x (l.take i) ([],false);rw[jAv]at hsl;by_cases h:i<l.length
 .have hst:(l.take (i+1)).foldl (gJ x) ([],false)=gJ x ((l.take i).foldl (gJ x) ([],false)) l[i]:=by rw[jA8 h,jBr];rfl
  generalize (l.take i).foldl (gJ x) ([],false)=s at *
  obtain⟨o,d⟩:=s;simp only[jB4]at hsl;have hne:l≠[]:=fun e=>by rw[e]at h;simp at h
  have less:=zO1 l[i] x;cases d
  .cases hls:bJ l[i] x
   .simp[h,qV h,zX,hne];intro _;refine qB less (by simp[zX]) (by simp) ?_;by_cases hx:l[i]=x
    .simp[h,qV h,zX,hne,hx,dN];refine⟨⟨by simp[maxLen];omega,by omega⟩,?_⟩;exact zN (i+1) h (by omega) (mw [0,1] 0 (by rfl) (by simp[zX,hst,gJ,hx,dN,qD,zS,zY h hmx]))
    .simp[hls,h,qV h,zX,hne,hx];refine⟨⟨by simp[maxLen];omega,by omega⟩,?_⟩;refine⟨⟨by simp[maxLen];omega,by omega⟩,?_⟩;exact zN (i+1) h (by omega) (mw [0,1] 0 (by rfl) (by simp[zX,hst,gJ,hx,hls,qD,zS,zY h hmx]))
   .have hx:¬l[i]=x:=fun e=>by rw[e,dN]at hls;cases hls
    simp[h,qV h,zX,hne];intro _;refine qB less (by simp[zX]) (by simp) ?_;simp[hls,h,qV h,zX,hne,hx];refine⟨⟨by simp[maxLen];omega,by omega⟩,?_⟩;exact zN (i+1) h (by omega) (mw [0,1] 0 (by rfl) (by simp[zX,hst,gJ,hx,hls,qD,zS,zY h hmx]))
  .by_cases hx:l[i]=x
   .simp[h,qV h,zX,hne,hx];intro _;exact zN (i+1) h (by omega) (mw [0,1] 0 (by rfl) (by simp[zX,hst,gJ,hx,qD,zS,zY h hmx]))
   .simp[h,qV h,zX,hne,hx];intro _;refine⟨⟨by simp[maxLen];omega,by omega⟩,?_⟩;exact zN (i+1) h (by omega) (mw [0,1] 0 (by rfl) (by simp[zX,hst,gJ,hx,qD,zS,zY h hmx]))
 .have hie:i=l.length:=by omega
  subst hie;rw[jB2]at *
  generalize l.foldl (gJ x) ([],false)=s at *
  obtain⟨o,d⟩:=s;cases d
  .simp[zX];intro _;have hsl2:o.length<=2*l.length:=by simpa using hsl
   refine⟨⟨by simp[maxLen];omega,by omega⟩,?_⟩;exact zC 1 (by simp[zJf,qD,zS])
  .simp[zX];exact fun _=>zC 1 (by simp[zJf])
theorem zQN{l:wG}(h:SS l)(x:Id)(hl:l.length<=1000):my 41 [.sl l.length (zS l),.agg (zX x)] [] (.sl (mC l x).length (zS (mC l x))) []:=by have:=zQM l x hl;rw[zMD x l [] h]at this;exact this
@[simp]theorem qJ8:zA prog 235=true:=by kernel_rfl
def eL(n:Int):Int:=if 1099511627776<n then 1099511627776 else if n < -1099511627776 then -1099511627776 else n
@[simp]theorem qJP:zA prog 234=true:=by kernel_rfl
def fM(b:Bool):Val:=.mk 1 (if b then 1 else 0) []
structure EVar where
 id:Id
 n:Int
 v:Val
abbrev wP:=List EVar
def nV(b:EVar):wF:=[.lit (.int .i64 b.id.a),.lit (.int .i64 b.id.b),.lit (.int .i64 b.id.c),.lit (.int .i64 b.n),.lit (.int .i64 b.v.k),.lit (.int .i64 b.v.n),.sl b.v.kids.length (zT b.v.kids)]
theorem tC(b:EVar):qT (nV b):=by have h:=dL b.v.kids;exact⟨by simp[nV,h.1],fun rf g=>by simp[nV,h.2]⟩
def iZ(l:wP):wF:=l.flatMap nV
theorem vQ(l:wP):qT (iZ l):=cN tC l
@[simp]theorem zTz(l:wP):jE (iZ l)=iZ l:=(vQ l).1
@[simp]theorem zXX{rf g}(l:wP):vwL rf g (iZ l)=iZ l:=(vQ l).2 _ _
@[simp]theorem zUJ:iZ []=[]:=rfl
@[simp]theorem zUI(l:wP):(iZ l).length=l.length*7:=by rw[iZ,dS (k:=7) (fun _=>rfl)]
@[simp]theorem zYF(d:EVar):(nV d).length=7:=rfl
@[simp]theorem zYE(d:EVar):(nV d).take 7=nV d:=jAh (jA _)
@[simp]theorem zWH(d:EVar)(l:wF):(nV d++l).take 7=nV d:=by rw[jCa (by simp)];exact jAh (by simp)
@[simp]theorem zXo(d:EVar):jE (nV d)=nV d:=(tC d).1
@[simp]theorem qET(d:EVar) {rf g}:vwL rf g (nV d)=nV d:=(tC d).2 _ _
def vT(env:wP)(id:Id)(n:Int):Val:=((env.reverse.find? fun b=>decide (b.id=id/\b.n=n)).map EVar.v).getD (.mk 0 0 [])
theorem zDU(env:wP)(b:EVar)(id:Id)(n:Int):vT (env++[b]) id n=if b.id=id/\b.n=n then b.v else vT env id n:=by unfold vT;rw[List.reverse_append,List.reverse_singleton,jCj,jC5];by_cases h:b.id=id/\b.n=n<;>simp[h]
@[simp]theorem qJD:zA prog 227=true:=by kernel_rfl
def qBh:K:=G [kO 1 0,kMi 2 0] (G [kMi 3 1] (Z (G [D 6 1 2,L 7 6 1,kN 8 7,kMi 9 0] (K.block 0 (K.loop (G [kB 10 9 8 .lss] (Z (Y 10 ks (K.exit 0)) (Z (K.block 1 (G [kX 11 7 9 3,J 12 11 3,kZ 5 [ki,ki,kl],S 5 12 3] (K.ops [M 13 3,J 14 5 3,kC 15 195 [(kt 14)],kB 16 13 15 .add,M 3 16]))) (K.ops [kBi 17 9 1 .add,M 9 17]))))))) (G [M 18 3,M 2 18] kr)))
theorem qII:ky f195 qBh:=m_ (by kernel_rfl)
theorem zNl(v:Val):my 195 [.agg (z7 v)] [] (int (vY v)) []:=by
 refine zG func195 rfl qII (rs:=[.slot 2]) (by kernel_rfl) ?_;unfold qBh;simp[z7];intro hl;refine qH (S:=Nat) (fun i=>[(3,int (zHP (v.kids.take i))),(7,.sl v.kids.length (zT v.kids)),(8,int v.kids.length),(9,int i)]) (fun s=>[]) (fun i=>i<=v.kids.length) (fun i=>v.kids.length-i) 0 (by simp)
  (mw [] 0 (by rfl) (by simp[zHP])) ?_
 intro i hi;simp;by_cases h:i<v.kids.length
 .simp[h,j6 h];refine mu (zNl v.kids[i]) (by simp[z7]) ?_;simp;exact zN (i+1) h (by omega) (mw [] 0 (by rfl) (by simp[zY h hl,zGF h]))
 .have:i=v.kids.length:=by omega
  subst this;simp;exact zC 0 (by simp[zKg v])
termination_by qU v
decreasing_by exact dY (jA0 _)
def qBe:K:=G [kO 1 0,kMi 2 0] (G [kMi 3 0] (Z (G [D 6 1 2,L 7 6 1,kN 8 7,kMi 9 0] (K.block 0 (K.loop (G [kB 10 9 8 .lss] (Z (Y 10 ks (K.exit 0)) (Z (K.block 1 (G [kX 11 7 9 3,J 12 11 3,kZ 5 [ki,ki,kl],S 5 12 3] (K.ops [M 13 3,J 14 5 3,kC 15 203 [(kt 14)],⟨none,.mm (some 16) true [(kt 13),(kt 15)]⟩,M 3 16]))) (K.ops [kBi 17 9 1 .add,M 9 17]))))))) (G [M 18 3,kBi 19 18 1 .add,M 2 19] kr)))
theorem qIF:ky f203 qBe:=m_ (by kernel_rfl)
theorem zM5(v:Val):my 203 [.agg (z7 v)] [] (int (p6 v)) []:=by
 refine zG func203 rfl qIF (rs:=[.slot 2]) (by kernel_rfl) ?_;unfold qBe;simp[z7];intro hl;refine qH (S:=Nat) (fun i=>[(3,int (zL0 (v.kids.take i))),(7,.sl v.kids.length (zT v.kids)),(8,int v.kids.length),(9,int i)]) (fun s=>[]) (fun i=>i<=v.kids.length) (fun i=>v.kids.length-i) 0 (by simp)
  (mw [] 0 (by rfl) (by simp[zL0])) ?_
 intro i hi;simp;by_cases h:i<v.kids.length
 .simp[h,j6 h];refine mu (zM5 v.kids[i]) (by simp[z7]) ?_;simp;exact zN (i+1) h (by omega) (mw [] 0 (by rfl) (by simp[zY h hl,zO6 h,zRg]))
 .have:i=v.kids.length:=by omega
  subst this;simp;exact zC 0 (by simp[zNK v,w64])
termination_by qU v
decreasing_by exact dY (jA0 _)
def qBg:K:=G [kO 1 0,kMb 2 false] (G [kZ 3 [ki],⟨none,.st none (kt 3) (kc 256) 1⟩] (G [kZ 4 [.nilFunc]] (G [⟨none,.clo (some 5) 190 [] [(kt 3),(kt 4)]⟩,S 4 5 1] (G [L 6 4 1,J 7 1 3,⟨none,.call (some 8) (kt 6) [(kt 7),(kc 1)]⟩,M 2 8] kr))))
theorem qIH:ky f146 qBg:=m_ (by kernel_rfl)
def zUv:K:=G [kO 4 0,kO 5 1,kMb 6 false] (G [L 7 2 1,kBi 8 7 1 .sub,S 2 8 1] (G [L 9 2 1,kBi 10 9 0 .geq,M 11 10,T 11 true (L 12 5 1),T 11 true (kBi 13 12 24 .leq),kPf 14 11 13,M 15 14,T 15 true (D 16 4 2),T 15 true (L 17 16 1),⟨some (15,true),.clo (some 18) 192 [] [(kt 3),(kt 5)]⟩,T 15 true (kC 19 191 [(kt 17),(kt 18)]),T 15 true (kR 20 19),kPf 21 15 20,M 6 21] kr))
theorem qCh:ky f190 zUv:=m_ (by kernel_rfl)
def zVE:K:=G [kMb 4 false] (G [M 5 0,M 6 1,kC 7 216 [(kt 5),(kt 6)],kBi 8 7 0 .geq,M 4 8] kr)
theorem qCb:ky f191 zVE:=m_ (by kernel_rfl)
def zUw:K:=G [kO 3 0,kMb 4 false] (G [L 5 1 1,J 6 3 3,L 7 2 1,kBi 8 7 1 .add,⟨none,.call (some 9) (kt 5) [(kt 6),(kt 8)]⟩,kR 10 9,M 4 10] kr)
theorem qCi:ky f192 zUw:=m_ (by kernel_rfl)
def zVF:K:=G [kMi 4 0] (Z (G [M 6 0,kN 7 6,kMi 8 0] (K.block 0 (K.loop (G [kB 9 8 7 .lss] (Z (Y 9 ks (K.exit 0)) (Z (K.block 1 (G [M 10 8,M 5 10] (G [M 11 1,M 12 0,M 13 5,kX 14 12 13 3,J 15 14 3,⟨none,.call (some 16) (kt 11) [(kt 15)]⟩] (Y 16 (G [M 17 5,M 4 17] kr) ks)))) (K.ops [kBi 18 8 1 .add,M 8 18]))))))) (G [⟨none,.mov (some 4) (kc (-1))⟩] kr))
theorem qCg:ky f216 zVF:=m_ (by kernel_rfl)
@[simp]theorem qKv:zA prog 216=true:=by kernel_rfl
mutual
def fJ:Val->Nat
 | .mk _ _ l=>e8 l+1
def e8:List Val->Nat
 |[]=>0
 |v::l=>max (fJ v) (e8 l)
end
theorem mK(v:Val):fJ v=e8 v.kids+1:=by cases v;simp only[fJ,Val.kids]
theorem lL(v:Val):qU v=1+jK v.kids:=by cases v;simp only[qU,Val.kids]
theorem zC7:∀{l:wI} {v:Val},v∈l->fJ v<=e8 l
 |x::l,v,h=>by
  simp only[e8];rcases jA3.1 h with rfl|h
  .omega
  .have:=zC7 h;omega
theorem fS:∀(a b:wI),jK (a++b)=jK a+jK b
 |[],b=>by simp[jK]
 |x::a,b=>by simp[jK,fS a b];omega
variable{i:Nat}
theorem zCZ{l:wI}(h:i<l.length):jK (l.take (i+1))=jK (l.take i)+qU l[i]:=by rw[jA8 h,fS];simp[jK]
theorem zBo(l:wI)(i:Nat):jK l=jK (l.take i)+jK (l.drop i):=by
 conv=>lhs;rw[<-jBs i l]
 exact fS _ _
def eH:A:=.clo 190 [] [.ptr 0 0,.ptr 1 0]
def sSt(L:Nat):St:=[.box [int L],.box [eH]]
def pD(L:Nat)(d:Int):St:=[.box [int L],.box [eH],.box [int d]]
def zDg(v:Val)(d:Int):Prop:=∀L:Nat,qU v<=L->L<=256->my 190 [.agg (z7 v),int d,.ptr 0 0,.ptr 1 0] (sSt L) (bl true) (sSt (L-qU v))
theorem zOX(v:Val)(d:Int)(hd:0<=d/\d<=100)(h:zDg v (d+1))(L:Nat)(hL:qU v<=L)(hL2:L<=256) :
 my 192 [.agg (z7 v),.ptr 1 0,.ptr 2 0] (pD L d) (bl false) (pD (L-qU v) d):=by
 refine zG func192 rfl qCi (rs:=[.slot 4]) (by kernel_rfl) ?_;unfold zUw;have hw:=z8 (d+1) (by omega);simp[pD,eH,hw,z7];refine mr (h L hL hL2) [0,1] (by simp[sSt,eH,z7]) ?_;simp[sSt,eH];exact mv [0,1,2] 0 (by rfl) (by simp[eH])
theorem zST(l:wI)(d:Int)(hd:0<=d/\d<=100)(h:∀x∈l,zDg x (d+1))(L:Nat)(hL:jK l<=L)(hL2:L<=256) :
 my 216 [.sl l.length (zT l),.clo 192 [] [.ptr 1 0,.ptr 2 0]] (pD L d) (int (-1)) (pD (L-jK l) d):=by
 refine zG func216 rfl qCg (rs:=[.slot 4]) (by kernel_rfl) ?_;unfold zVF;simp[pD,eH];intro hl;refine qH (S:=Nat) (fun i=>[(0,.sl l.length (zT l)),(1,.clo 192 [] [.ptr 1 0,.ptr 2 0]),(6,.sl l.length (zT l)),(7,int l.length),(8,int i)]) (fun i=>pD (L-jK (l.take i)) d) (fun i=>i<=l.length) (fun i=>l.length-i) 0 (by simp)
  (mw [0,1,2] 0 (by rfl) (by simp[pD,eH,jK])) ?_
 intro i hi;by_cases hil:i<l.length
 .have e1:=zCZ hil;have e2:=zBo l (i+1);simp[hil,j6 hil,pD,eH];refine mr (zOX l[i] d hd (h _ (jA0 hil)) (L-jK (l.take i)) (by omega) (by omega)) [0,1,2] (by simp[pD,eH,z7]) ?_;simp[pD,eH];exact zN (i+1) hil (by omega) (mw [0,1,2] 0 (by rfl) (by simp[pD,eH,e1,Nat.sub_sub,zY hil hl]))
 .have:i=l.length:=by omega
  subst this;simp[pD,eH];exact mv [0,1,2] 0 (by rfl) (by simp[eH])
theorem zS1(l:wI)(d:Int)(hd:0<=d/\d<=100)(h:∀x∈l,zDg x (d+1))(L:Nat)(hL:jK l<=L)(hL2:L<=256) :
 my 191 [.sl l.length (zT l),.clo 192 [] [.ptr 1 0,.ptr 2 0]] (pD L d) (bl false) (pD (L-jK l) d):=by
 refine zG func191 rfl qCb (rs:=[.slot 4]) (by kernel_rfl) ?_;unfold zVE;simp[pD,eH];refine mr (zST l d hd h L hL hL2) [0,1,2] (by simp[pD,eH]) ?_;simp[pD,eH];exact mv [0,1,2] 0 (by rfl) (by simp[eH])
theorem zEU(v:Val)(d:Int)(hd:1<=d/\d+fJ v<=25):zDg v d:=by
 intro L hL hL2;refine zG func190 rfl qCh (rs:=[.slot 6]) (by kernel_rfl) ?_;unfold zUv;have e1:=lL v;have e2:=mK v;have hw:IntKind.i64.wrap ((L:Int)-1)=((L-1:Nat):Int):=by rw[IntWalk.i64_in _ (by omega)];omega
 have hd24:d<=24:=by omega
 simp[sSt,eH,hw,hd24,z7];refine mr (zS1 v.kids d (by omega) (fun x hx=>zEU x (d+1) (by have:=zC7 hx;omega)) (L-1) (by omega) (by omega)) [0,1,3] (by simp[pD,eH]) ?_;simp[pD,eH];exact mv [0,1] 0 (by rfl) (by simp[eH,e1,Nat.sub_sub])
termination_by qU v
decreasing_by exact dY hx
theorem zRB(v:Val)(h1:qU v<=256)(h2:fJ v<=24):my 146 [.agg (z7 v)] [] (bl true) []:=by refine zG func146 rfl qIH (rs:=[.slot 2]) (by kernel_rfl) ?_;unfold qBg;simp[z7];refine mr (zEU v 1 (by omega) 256 h1 (by omega)) [1,2] (by simp[sSt,eH,z7]) ?_;simp[sSt,eH];exact zC 0 (by simp)
theorem zFx:my 58 [.sl 0 []] [] (.sl 0 []) []:=by refine zG func58 rfl zIn (rs:=[.slot 2]) (by kernel_rfl) ?_;unfold zDx;simp;exact zC 0 (by simp)
def qAS:K:=G [kMn 2] (G [M 4 0,kC 5 127 [(kt 4)],M 3 5] (G [M 6 3,kC 7 42 [(kt 6),(.func 128)]] (G [M 8 3,kC 9 58 [(kt 8)],M 2 9] kr)))
theorem qI3:ky f61 qAS:=m_ (by kernel_rfl)
theorem zAj(l:wG)(hb:l.length<=4000000000):my 61 [.sl l.length (zS l)] [] (.sl (aP l).length (zS (aP l))) []:=by
 refine zG func61 rfl qI3 (rs:=[.slot 2]) (by kernel_rfl) ?_;unfold qAS;simp;by_cases h:l=[]
 .subst h;refine mr zI2 [] (by simp) ?_;simp;refine mr (zLV (.clo 128 [] [])) [] (by simp) ?_;simp;refine mr zFx [] (by simp) ?_;simp;exact zC 0 (by simp[aP,bE,yG])
 .refine mr (zI1 l h hb) [] (by simp) ?_;simp;refine mr (zLU l (by omega)) [0] (by simp) ?_;have hp:=(cQ l).length_eq;simp;have hc:=zDG (bE gI l) (by omega);rw[hp]at hc;refine mr hc [0] (by simp) ?_;have hle:=zBB (bE gI l);simp[zFQ];by_cases hcc:yG (bE gI l)=bE gI l
  .simp[hcc,hp];exact zC 1 (by simp[aP,hcc,hp,cR])
  .simp[hcc,hp];have h0:(yG (bE gI l)).length≠0:=fun e=>by have h1:=jBt e;obtain⟨x,hx⟩:=List.exists_mem_of_ne_nil l h;have:=(zBC (x:=x) (bE gI l)).2 ((cQ l).mem_iff.2 hx);rw[h1]at this;simp at this
   exact zC 1 (by simp[aP,h0,qD])
def zPA:K:=G [kO 2 0,kO 3 1,kZ 4 [kl,kl]] (Z (K.dops [(0,0,D 5 2 0),(1,0,L 6 5 1),(2,0,D 7 3 0),(3,0,L 8 7 1),(4,0,kd 9 28 1 2 [kl,kl] [(0,1,(kt 6)),(1,1,(kt 8))]),(5,0,kC 10 56 [(kt 9)]),(6,0,kC 11 61 [(kt 10)]),(7,0,D 12 2 1),(8,0,L 13 12 1),(9,0,D 14 3 1),(10,0,L 15 14 1),(11,0,kd 16 28 1 2 [kl,kl] [(0,1,(kt 13)),(1,1,(kt 15))]),(12,0,kC 17 56 [(kt 16)]),(13,0,kC 18 61 [(kt 17)]),(14,0,kb 19 [kl,kl] [(0,1,(kt 11)),(1,1,(kt 18))]),(15,0,S 4 19 2)]) kr)
theorem zVZ:ky f46 zPA:=m_ (by kernel_rfl)
def zTU:K:=G [kO 2 0,kMb 4 false] (G [⟨none,.mop (some 8) (.mk 3) []⟩,kZ 5 [(.map none)],S 5 8 1] (Z (G [D 9 2 0,L 10 9 1,D 11 2 1,L 12 11 1,kd 13 28 1 2 [kl,kl] [(0,1,(kt 10)),(1,1,(kt 12))],kC 14 56 [(kt 13)],kN 15 14,kMi 16 0] (K.block 0 (K.loop (G [kB 17 16 15 .lss] (Z (Y 17 ks (K.exit 0)) (Z (K.block 1 (G [kX 18 14 16 3,J 19 18 3,kZ 7 [ki,ki,ki],S 7 19 3] (K.ops [L 20 5 1,J 21 7 3,⟨none,.mop none (.set 3) [(kt 20),(kt 21),(.const (.bool true))]⟩]))) (K.ops [kBi 22 16 1 .add,M 16 22]))))))) (G [M 23 1,⟨none,.clo (some 24) 117 [] [(kt 5)]⟩,kC 25 116 [(kt 23),(kt 24)],M 4 25] kr)))
theorem qBC:ky f53 zTU:=m_ (by kernel_rfl)
def zPp:K:=G [kO 2 0,kMb 3 false] (G [L 4 1 1,J 5 2 3,⟨none,.mop (some 6) (.get 3 (.bool false) false) [(kt 4),(kt 5)]⟩,M 3 6] kr)
theorem zVS:ky f117 zPp:=m_ (by kernel_rfl)
def zGR:K:=G [kMi 4 0] (Z (G [M 6 0,kN 7 6,kMi 8 0] (K.block 0 (K.loop (G [kB 9 8 7 .lss] (Z (Y 9 ks (K.exit 0)) (Z (K.block 1 (G [M 10 8,M 5 10] (G [M 11 1,M 12 0,M 13 5,kX 14 12 13 3,J 15 14 3,⟨none,.call (some 16) (kt 11) [(kt 15)]⟩] (Y 16 (G [M 17 5,M 4 17] kr) ks)))) (K.ops [kBi 18 8 1 .add,M 8 18]))))))) (G [⟨none,.mov (some 4) (kc (-1))⟩] kr))
theorem zMy:ky f125 zGR:=m_ (by kernel_rfl)
def zPq:K:=G [kMb 4 false] (G [M 5 0,M 6 1,kC 7 125 [(kt 5),(kt 6)],kBi 8 7 0 .geq,M 4 8] kr)
theorem zVT:ky f116 zPq:=m_ (by kernel_rfl)
theorem zHx(a b:Trc)(h1:a.defs.length+b.defs.length<=4000000000)(h2:a.nodes.length+b.nodes.length<=4000000000) :
 my 46 [.agg (yM a),.agg (yM b)] [] (.agg (yM ⟨aP (a.defs++b.defs),aP (a.nodes++b.nodes)⟩)) []:=by
 refine zG func46 rfl zVZ (rs:=[.cell 4 2 true]) (by kernel_rfl) ?_;unfold zPA;have e1:[a.defs,b.defs].flatten=a.defs++b.defs:=by simp
 have e2:[a.nodes,b.nodes].flatten=a.nodes++b.nodes:=by simp
 simp[yM];refine qB (pY [a.defs,b.defs] (by rw[dC,e1,jA4];exact h1)) (by simp[bF]) (by simp) ?_;rw[dC,e1];simp;refine qB (zAj (a.defs++b.defs) (by rw[jA4];exact h1)) (by simp) (by simp) ?_;simp;refine qB (pY [a.nodes,b.nodes] (by rw[dC,e2,jA4];exact h2)) (by simp[bF]) (by simp) ?_;rw[dC,e2];simp;refine qB (zAj (a.nodes++b.nodes) (by rw[jA4];exact h2)) (by simp) (by simp) ?_;simp;exact zC 0 (by simp)
def o5(l:wG):List (wC×A):=l.foldl (fun es d=>mG (dE d) (.lit (.bool true)) es) []
theorem zBS(l:wG)(x:Id):o5 (l++[x])=mG (dE x) (.lit (.bool true)) (o5 l):=by simp[o5,jBr]
variable{x:Id}
theorem tO{y:Id}:dE x=dE y↔x=y:=by simp[dE,Id.eq_iff]
theorem zFV{ks ks':wC}{v:A}:∀(es:List (wC×A)),bP ks (mG ks' v es)=if ks'=ks then some v else bP ks es
 |[]=>by simp[mG,bP]
 |p::es=>by
  simp only[mG];by_cases h:p.1=ks'
  .simp only[h,if_true,bP];by_cases h':ks'=ks<;>simp[h']
  .simp only[h,if_false,bP];by_cases h':p.1=ks
   .simp only[h',if_true];have:¬ks'=ks:=fun e=>h (h'.trans e.symm)
    simp[this]
   .simp only[h',if_false,zFV es]
theorem zLb(x:Id)(l:wG):bP (dE x) (o5 l)=if x∈l then some (.lit (.bool true))else none:=by
 induction l using eI with
 |nil=>simp[o5,bP]
 |snoc l y ih =>
  rw[zBS,zFV,ih];by_cases h:y=x
  .subst h;simp
  .have:¬dE y=dE x:=fun e=>h (tO.1 e)
   have h':¬x=y:=fun e=>h e.symm
   simp[this,h']
theorem zRe(l:wG)(k:Nat):∀p∈o5 l,p.2.bnd k=true:=by
 induction l using eI with
 |nil=>simp[o5]
 |snoc l y ih =>
  rw[zBS];have:∀es:List (wC×A),(∀p∈es,p.2.bnd k=true)->∀p∈mG (dE y) (.lit (.bool true)) es,p.2.bnd k=true:=by
   intro es;induction es with
   |nil=>intro _ p hp;simp[mG]at hp;subst hp;rfl
   |cons q es ih =>
    intro h p hp;simp only[mG]at hp;split at hp
    .rcases jA3.1 hp with rfl|hp
     .rfl
     .exact h p (jAi _ hp)
    .rcases jA3.1 hp with rfl|hp
     .exact h _ (jAp ..)
     .exact ih (fun p hp=>h p (jAi _ hp)) p hp
  exact this _ ih
variable{rf:Bool->Nat->Nat->A}{g:Nat->wD}
@[simp]theorem qGM(l:wG):((o5 l).map fun p=>(p.1,vw rf g p.2))=o5 l:=by
 have h:=zRe l 0;generalize o5 l=es at h;induction es with
 |nil=>rfl
 |cons p es ih =>
  rw[jAc,ih fun q hq=>h q (jAi _ hq),zCq (k:=0) (fun l hl=>by omega) p.2 (h p (jAp ..))]
theorem zPQ(l:wG)(x:Id):my 117 [.agg (zX x),.ptr 0 0] [.box [.map 1],.mp true 3 (o5 l)] (bl (decide (x∈l))) [.box [.map 1],.mp true 3 (o5 l)]:=by
 refine zG func117 rfl zVS (rs:=[.slot 3]) (by kernel_rfl) ?_;unfold zPp;have hf:=zLb x l;simp only[dE]at hf;simp[zX];have hr:tJ (Value.bool false) false (bP [x.a,x.b,x.c] (o5 l))=.lit (.bool (decide (x∈l))):=by rw[hf];by_cases h:x∈l<;>simp[tJ,h,u9,q9]
 rw[hr];exact mv [0,1] 0 (by rfl) (by simp)
def zLm(l ids:wG):Int:=match ids.findIdx? (fun x=>decide (x∈l))with
 |some i=>i
 |none=>-1
theorem zJd(l ids:wG):decide (0<=zLm l ids)=ids.any fun x=>decide (x∈l):=by
 unfold zLm;cases h:ids.findIdx? (fun x=>decide (x∈l))with
 |none =>
  rw[List.findIdx?_eq_none_iff]at h;have:(ids.any fun x=>decide (x∈l))=false:=by rw[List.any_eq_false];exact fun x hx=>by simpa using h x hx
  rw[this];rfl
 |some i =>
  have h':=List.findIdx?_eq_some_iff_getElem.1 h;obtain⟨hi,h1,_⟩:=h';have:(ids.any fun x=>decide (x∈l))=true:=by rw[List.any_eq_true];exact⟨_,jA0 hi,h1⟩
  rw[this];simp
theorem zOs(l ids:wG):my 125 [.sl ids.length (zS ids),.clo 117 [] [.ptr 0 0]] [.box [.map 1],.mp true 3 (o5 l)] (int (zLm l ids)) [.box [.map 1],.mp true 3 (o5 l)]:=by
 refine zG func125 rfl zMy (rs:=[.slot 4]) (by kernel_rfl) ?_;unfold zGR;simp;intro hl;refine qH (S:=Nat) (fun i=>[(0,.sl ids.length (zS ids)),(1,.clo 117 [] [.ptr 0 0]),(7,int ids.length),(8,int i)]) (fun i=>[.box [.map 1],.mp true 3 (o5 l)]) (fun i=>i<=ids.length/\∀x∈ids.take i,x∉l) (fun i=>ids.length-i) 0 (by simp)
  (mw [0,1] 0 (by rfl) (by simp)) ?_
 rintro i ⟨hi,hn⟩;by_cases h:i<ids.length
 .simp[h,qV h];refine mr (zPQ l ids[i]) [0,1] (by simp[zX]) ?_;simp;by_cases hx:ids[i]∈l
  .have:zLm l ids=i:=by
    unfold zLm;rw[List.findIdx?_eq_some_iff_getElem.2 ⟨h,by simpa using hx,fun j hj=>by
     have:=hn ids[j] (by rw[List.mem_take_iff_getElem];exact⟨j,by omega,rfl⟩)
     simpa using this⟩]
   simp[hx];exact mv [0,1] 0 (by rfl) (by simp[this])
  .simp[hx];exact zN (i+1) ⟨h,fun x hx'=>by
    rw[jA8 h]at hx';rcases jA6.1 hx' with hx'|hx'
    .exact hn x hx'
    .rw[jAk.1 hx'];exact hx⟩ (by omega) (mw [0,1] 0 (by rfl) (by simp[zY h hl]))
 .have:i=ids.length:=by omega
  subst this;rw[jB2]at hn;have:zLm l ids = -1:=by unfold zLm;rw[List.findIdx?_eq_none_iff.2 fun x hx=>by simpa using hn x hx]
  simp;exact mv [0,1] 0 (by rfl) (by simp[this])
theorem zQm(l ids:wG):my 116 [.sl ids.length (zS ids),.clo 117 [] [.ptr 0 0]] [.box [.map 1],.mp true 3 (o5 l)] (bl (ids.any fun x=>decide (x∈l))) [.box [.map 1],.mp true 3 (o5 l)]:=by refine zG func116 rfl zVT (rs:=[.slot 4]) (by kernel_rfl) ?_;unfold zPq;simp;refine mr (zOs l ids) [0,1] (by simp) ?_;simp;exact ke [0,1] 0 (by rfl) (by simp) (by rw[<-zJd];simp)
theorem zMt(t:Trc)(ids l:wG)(hl:l=t.defs++t.nodes)(h:l.length<=4000000000):my 53 [.agg (yM t),.sl ids.length (zS ids)] [] (bl (ids.any fun x=>decide (x∈l))) []:=by
 refine zG func53 rfl qBC (rs:=[.slot 4]) (by kernel_rfl) ?_;unfold zTU;have e1:[t.defs,t.nodes].flatten=l:=by simp[hl]
 simp[yM];refine mu (pY [t.defs,t.nodes] (by rw[dC,e1];exact h)) (by simp[bF]) ?_;rw[dC,e1];simp;intro hlm;refine qH (S:=Nat) (fun i=>[(1,.sl ids.length (zS ids)),(5,.ptr 0 0),(14,.sl l.length (zS l)),(15,int l.length),(16,int i)]) (fun i=>[.box [.map 1],.mp true 3 (o5 (l.take i))]) (fun i=>i<=l.length) (fun i=>l.length-i) 0 (by simp)
  (mw [2,1] 0 (by rfl) (by simp[o5])) ?_
 intro i hi;by_cases h:i<l.length
 .have hs:=zBS (l.take i) l[i];rw[<-jA8 h,dE]at hs;simp[h,qV h];rw[<-hs];exact zN (i+1) h (by omega) (mw [0,1] 0 (by rfl) (by simp[zY h hlm]))
 .have:i=l.length:=by omega
  subst this;simp;refine mr (zQm l ids) [0,1] (by simp) ?_;simp;exact zC 0 (by simp)
def KAt:K:=G [kMi 6 0] (Z (G [M 7 1,kBi 8 7 0 .lss,M 9 8,T 9 false (M 10 1),T 9 false (M 11 0),T 9 false (kN 12 11),T 9 false (kB 13 10 12 .geq),kPt 14 9 13] (Y 14 (G [kMi 6 0] kr) ks)) (G [M 15 0,M 16 1,kX 17 15 16 1,L 18 17 1,M 19 2,kC 20 14 [(kt 18),(kt 19)],M 6 20] kr))
theorem cAt:ky f34 KAt:=m_ (by kernel_rfl)
def qAP:K:=G [kZ 2 [ki,ki,ki]] (G [M 3 0,kBi 4 3 32 .quo,⟨none,.bin (some 5) .add (kc 1) (kt 4)⟩,M 6 0,kBi 7 6 32 .rem,kb 8 [ki,ki,ki] [(1,1,(kt 5)),(2,1,(kt 7))],S 2 8 3] kr)
theorem qI0:ky f35 qAP:=m_ (by kernel_rfl)
def KOf:K:=G [kO 1 0,kZ 2 kz2] (G [J 3 1 3,kb 4 kz2 [(0,1,(kc 3)),(1,3,(kt 3))],S 2 4 5] kr)
theorem cOf:ky f81 KOf:=m_ (by kernel_rfl)
def zUe:K:=G [kO 1 0,kZ 2 kz2] (G [J 3 1 5,kd 4 36 5 1 kz2 [(0,5,(kt 3))],kb 5 kz2 [(0,1,(kc 2)),(4,1,(kt 4))],S 2 5 5] kr)
theorem qBN:ky f83 zUe:=m_ (by kernel_rfl)
def zMp:K:=G [kO 2 0,kO 3 1,kMb 4 false] (Z (G [D 6 2 0,L 7 6 1,D 8 3 0,L 9 8 1,kQ 10 7 9 true,M 11 10,T 11 false (D 12 2 1),T 11 false (J 13 12 3),T 11 false (D 14 3 1),T 11 false (J 15 14 3),⟨some (11,false),.eqs (some 16) true [.i,.i,.i] (kt 13) (kt 15)⟩,kPt 17 11 16,M 18 17,T 18 false (D 19 2 4),T 18 false (L 20 19 1),T 18 false (kN 21 20),T 18 false (D 22 3 4),T 18 false (L 23 22 1),T 18 false (kN 24 23),T 18 false (kQ 25 21 24 true),kPt 26 18 25] (Y 26 (G [kMb 4 false] kr) ks)) (Z (G [kMi 5 0] (K.block 0 (K.loop (Z (G [M 27 5,D 28 2 4,L 29 28 1,kN 30 29,kB 31 27 30 .lss] (Y 31 ks (K.exit 0))) (Z (K.block 1 (Z (K.dops [(0,0,D 34 2 4),(1,0,L 35 34 1),(2,0,M 36 5),(3,0,kX 37 35 36 5),(4,0,J 38 37 5),(5,0,D 39 3 4),(6,0,L 40 39 1),(7,0,M 41 5),(8,0,kX 42 40 41 5),(9,0,J 43 42 5),(10,0,kC 44 152 [(kt 38),(kt 43)]),(11,0,kR 45 44)]) (Y 45 (G [kMb 4 false] kr) ks))) (K.ops [M 32 5,kBi 33 32 1 .add,M 5 33])))))) (G [kMb 4 true] kr)))
theorem zSw:ky f152 zMp:=m_ (by kernel_rfl)
def qAL:K:=G [kMi 4 0] (G [M 5 0,kU 6 5,D 7 6 3,L 8 7 1,kBi 9 8 1 .add,kU 10 5,D 11 10 3,S 11 9 1] (Z (K.dops [(0,0,M 12 0),(1,0,kU 13 12),(2,0,D 14 13 2),(3,0,L 15 14 1),(4,0,M 16 0),(5,0,kU 17 16),(6,0,D 18 17 3),(7,0,L 19 18 1),(8,0,kBi 20 19 1 .sub),(9,0,M 21 1),(10,0,kC 22 34 [(kt 15),(kt 20),(kt 21)]),(11,0,M 4 22)]) kr))
theorem qIw:ky f85 qAL:=m_ (by kernel_rfl)
def zPy:K:=G [kZ 8 kz1] (G [M 9 0,kU 10 9,D 11 10 4,L 12 11 1,kBi 13 12 1 .add,kU 14 9,D 15 14 4,S 15 13 1] (G [M 16 0,kU 17 16,D 18 17 5,L 19 18 1,kBi 20 19 1 .sub,kU 21 16,D 22 21 5,S 22 20 1] (G [M 23 0,kU 24 23,D 25 24 4,L 26 25 1,kBi 27 26 1 .sub,kb 28 [ki,ki,ki] [(2,1,(kt 27))],M 29 1,M 30 2,M 31 3,kb 32 kz1 [(0,3,(kt 28)),(3,1,(kt 29)),(4,1,(kt 30)),(13,1,(kt 31))],S 8 32 15] kr)))
theorem zU4:ky f89 zPy:=m_ (by kernel_rfl)
def zUf:K:=G [⟨none,.mov (some 2) (.const (.string ⟨#[]⟩))⟩] (G [M 3 0,kU 4 3,D 5 4 10,L 6 5 1,kBi 7 6 1 .add,kU 8 3,D 9 8 10,S 9 7 1] (Z (K.dops [(0,0,⟨none,.bslice (some 10) 9 1 3 zQU [(0,1,(.const (.string ⟨#[117]⟩))),(1,1,(.const (.string ⟨#[118]⟩))),(2,1,(.const (.string ⟨#[119]⟩)))]⟩),(1,0,M 11 0),(2,0,kU 12 11),(3,0,D 13 12 10),(4,0,L 14 13 1),(5,0,kBi 15 14 3 .rem),(6,0,kX 16 10 15 1),(7,0,L 17 16 1),(8,0,⟨none,.bslice (some 18) 9 1 8 [(.string ⟨#[]⟩),(.string ⟨#[]⟩),(.string ⟨#[]⟩),(.string ⟨#[]⟩),(.string ⟨#[]⟩),(.string ⟨#[]⟩),(.string ⟨#[]⟩),(.string ⟨#[]⟩)] [(0,1,(.const (.string ⟨#[]⟩))),(1,1,(.const (.string ⟨#[49]⟩))),(2,1,(.const (.string ⟨#[50]⟩))),(3,1,(.const (.string ⟨#[51]⟩))),(4,1,(.const (.string ⟨#[52]⟩))),(5,1,(.const (.string ⟨#[53]⟩))),(6,1,(.const (.string ⟨#[54]⟩))),(7,1,(.const (.string ⟨#[55]⟩)))]⟩),(9,0,M 19 0),(10,0,kU 20 19),(11,0,D 21 20 10),(12,0,L 22 21 1),(13,0,kBi 23 22 3 .quo),(14,0,kBi 24 23 8 .rem),(15,0,kX 25 18 24 1),(16,0,L 26 25 1),(17,0,kB 27 17 26 .add),(18,0,M 2 27)]) kr))
theorem qBQ:ky f90 zUf:=m_ (by kernel_rfl)
def qBk:K:=G [kMb 4 false] (G [M 6 0,kU 7 6,D 8 7 0,D 9 8 1,L 10 9 1,M 11 1,kX 12 10 11 31,J 13 12 31,kZ 5 kz0,S 5 13 31] (Z (K.dops [(0,0,M 14 1),(1,0,M 15 0),(2,0,kU 16 15),(3,0,D 17 16 6),(4,0,L 18 17 1),(5,0,kB 19 14 18 .lss),(6,0,M 20 19),(7,0,T 20 true (D 21 5 4)),(8,0,T 20 true (J 22 21 3)),(9,0,T 20 true (M 23 0)),(10,0,T 20 true (kU 24 23)),(11,0,T 20 true (D 25 24 7)),(12,0,T 20 true (J 26 25 3)),(13,0,⟨some (20,true),.eqs (some 27) false [.i,.i,.i] (kt 22) (kt 26)⟩),(14,0,T 20 true (M 28 27)),(15,0,T 28 false (D 29 5 4)),(16,0,T 28 false (J 30 29 3)),(17,0,T 28 false (M 31 0)),(18,0,T 28 false (kU 32 31)),(19,0,T 28 false (D 33 32 0)),(20,0,T 28 false (D 34 33 0)),(21,0,T 28 false (L 35 34 1)),(22,0,T 28 false (kXi 36 35 6 0)),(23,0,T 28 false (D 37 36 0)),(24,0,T 28 false (J 38 37 3)),(25,0,⟨some (28,false),.eqs (some 39) false [.i,.i,.i] (kt 30) (kt 38)⟩),(26,0,T 20 true (kPt 40 28 39)),(27,0,kPf 41 20 40),(28,0,M 4 41)]) kr))
theorem qIL:ky f154 qBk:=m_ (by kernel_rfl)
def qAM:K:=G [kMi 6 0] (G [M 10 0,kU 11 10,D 12 11 0,D 13 12 1,L 14 13 1,kN 15 14,M 7 15] (Z (G [kMi 8 0] (K.block 0 (K.loop (Z (G [M 16 8,M 17 7,kB 18 16 17 .lss] (Y 18 ks (K.exit 0))) (Z (K.block 1 (G [M 21 2,M 22 8,kB 23 21 22 .add,M 24 7,kB 25 23 24 .rem,M 9 25] (G [M 26 0,kU 27 26,D 28 27 0,D 29 28 1,L 30 29 1,M 31 9,kX 32 30 31 31,D 33 32 3,L 34 33 1,M 35 1,kQ 36 34 35 false,M 37 36,T 37 true (M 38 0),T 37 true (M 39 9),T 37 true (kC 40 154 [(kt 38),(kt 39)]),kPf 41 37 40] (Y 41 (G [M 42 9,M 6 42] kr) ks)))) (K.ops [M 19 8,kBi 20 19 1 .add,M 8 20])))))) (G [⟨none,.mov (some 6) (kc (-1))⟩] kr)))
theorem qIx:ky f153 qAM:=m_ (by kernel_rfl)
def zUx:K:=G [kO 3 1,kZ 4 kz1] (G [M 6 0,D 7 3 3,L 8 7 1,kC 9 89 [(kt 6),(kc 2),(kt 8),(.const kl)],kZ 5 kz1,S 5 9 15] (G [D 10 3 0,J 11 10 3,D 12 5 5,S 12 11 3] (G [J 13 5 15,S 4 13 15] kr)))
theorem qCj:ky f87 zUx:=m_ (by kernel_rfl)
def zHZ:K:=G [kO 3 1,kMn 4] (G [kMn 5] (Z (G [kMi 6 0] (K.block 0 (K.loop (Z (G [M 7 6,M 8 0,kN 9 8,kB 10 7 9 .lss] (Y 10 ks (K.exit 0))) (Z (K.block 1 (Z (K.dops [(0,0,M 13 0),(1,0,M 14 6),(2,0,kX 15 13 14 9),(3,0,D 16 15 4),(4,0,J 17 16 5),(5,0,J 18 3 5),(6,0,kC 19 152 [(kt 17),(kt 18)])]) (Y 19 (K.ops [M 20 5,M 21 0,M 22 6,kX 23 21 22 9,J 24 23 9,kd 25 101 9 1 kz7 [(0,9,(kt 24))],kP 26 101 9 88 20 25,M 5 26]) ks))) (K.ops [M 11 6,kBi 12 11 1 .add,M 6 12])))))) (G [M 27 5,M 4 27] kr)))
theorem zPX:ky f86 zHZ:=m_ (by kernel_rfl)
def zPH:K:=G [kO 3 1,kMn 4] (G [kMn 5] (Z (K.dops [(3,1,J 9 3 9),(4,0,kd 10 101 9 1 kz7 [(0,9,(kt 9))]),(0,0,M 6 5),(1,0,M 7 0),(2,0,kP 8 101 9 88 6 7),(5,0,kP 11 101 9 88 8 10),(6,0,M 4 11)]) kr))
def zWY:Nat->Option wE:=fun|2=>some [(3,1),(4,0),(0,0),(1,0),(2,0),(5,0),(6,0)]|_=>none
abbrev kx(f:Func)(h:Nat->Option wE)(k:K):Prop:=qL Tryz.prog f.ntmps h (f.body.getD .skip)=some k.erase
theorem mz{f:Func}{h:Nat->Option wE}{k:K}(e:qL Tryz.prog f.ntmps h (f.body.getD .skip)=some k.erase):kx f h k:=e
theorem zWg:kx f91 zWY zPH:=mz (by kernel_rfl)
def atV(l:wC)(i most:Int):Int:=if i<0\/(l.length:Int)<=i then 0 else jX (l.getD i.toNat 0) most
theorem dQ(l:wC)(i most:Int)(hm:0<most):my 34 [.sl l.length (y3 l),int i,int most] [] (int (atV l i most)) []:=by
 refine zG func34 rfl cAt (rs:=[.slot 6]) (by kernel_rfl) ?_;unfold KAt;by_cases h:i<0
 .simp[h];exact zC 0 (by simp[atV,h])
 by_cases h2:(l.length:Int)<=i
 .simp[h,h2];exact fun _=>zC 0 (by simp[atV,h2])
 .obtain⟨j,rfl⟩:∃j:Nat,i=j:=⟨i.toNat,by omega⟩;have hj:j<l.length:=by omega
  have hd:=uY hj;simp[h,h2,hj,hd];intro _;refine mu (uN l[j] most hm) (by simp) ?_;simp;exact zC 0 (by simp[atV,hj,h,show ¬l.length<=j by omega])
theorem yN{l:wC}{i most:Int}(hl:∀x∈l,w64 x=x)(hm:0<most):0<=atV l i most/\atV l i most<most:=by
 unfold atV;split
 .omega
 .rename_i h;have hj:i.toNat<l.length:=by omega
  rw[jBz,jA2 hj];exact eQ (hl _ (jA0 hj)) hm
def idR(k:Int):Id:=⟨0,IntKind.i64.wrap (1+IntKind.i64.wrap (k.tdiv 32)),k.tmod 32⟩
theorem sE(k:Int):my 35 [int k] [] (.agg (zX (idR k))) []:=by refine zG func35 rfl qI0 (rs:=[.cell 2 3 true]) (by kernel_rfl) ?_;unfold qAP;simp;exact zC 0 (by simp[zX,idR])
theorem zG0(d:Id):my 81 [.agg (zX d)] [] (.agg (zB (.mk 3 d []))) []:=by refine zG func81 rfl cOf (rs:=[.cell 2 5 true]) (by kernel_rfl) ?_;unfold KOf;simp[zX];exact zC 0 (by simp[zB])
theorem zTh(t:Typ):my 83 [.agg (zB t)] [] (.agg (zB (.mk 2 ⟨0,0,0⟩ [t]))) []:=by refine zG func83 rfl qBN (rs:=[.cell 2 5 true]) (by kernel_rfl) ?_;unfold zUe;simp[zB];exact zC 0 (by simp[zB,qK])
mutual
theorem mQ:∀(a b:Typ),my 152 [.agg (zB a),.agg (zB b)] [] (bl (yH a b)) []
 | .mk k i l,b=>by
  have ih:=zEP l;generalize ha:Typ.mk k i l=a;have hal:a.kids=l:=by rw[<-ha];rfl
  rw[<-hal]at ih;refine zG func152 rfl zSw (rs:=[.slot 4]) (by kernel_rfl) ?_;unfold zMp;have hd:=zG9 a b;by_cases h1:a.k=b.k
  .by_cases h2:a.id=b.id
   .by_cases h3:a.kids.length=b.kids.length
    .simp[zB,h1,h2,h3];intro hl;refine qH (S:=Nat) (fun j=>[(2,.ptr 0 0),(3,.ptr 1 0),(5,int j)]) (fun _=>[.box (zB a),.box (zB b)]) (fun j=>j<=a.kids.length/\∀(m:Nat) (hm:m<j) (hma:m<a.kids.length) (hmb:m<b.kids.length),yH a.kids[m] b.kids[m]=true) (fun j=>a.kids.length-j) 0 (by simp)
      (mw [0,1] 0 (by rfl) (by simp[zB,h1,h2,h3])) ?_
     rintro j ⟨hj,hs⟩;by_cases h:j<a.kids.length
     .have hb:j<b.kids.length:=by omega
      simp[zB,h,gD h,gD hb,hb];intro hl';refine qB (ih a.kids[j] (jA0 h) b.kids[j]) (by simp[zB]) (by simp) ?_;cases hab:yH a.kids[j] b.kids[j]
      .have:bX yH a.kids b.kids=false:=by rw[<-jC8,gL h3];intro hh;have:=hh j h;rw[hab]at this;cases this
       simp;exact zC 0 (by simp[hd,this])
      .simp;exact zN (j+1) ⟨h,fun m hm hma hmb=>by
        by_cases e:m=j
        .subst e;exact hab
        .exact hs m (by omega) hma hmb⟩ (by omega) (mw [0,1] 0 (by rfl) (by simp[zB,zY h (show a.kids.length<=maxLen by omega)]))
     .have hj':j=a.kids.length:=by omega
      have:bX yH a.kids b.kids=true:=(gL h3).2 fun m hm=>hs m (by omega) hm (by omega)
      simp[zB,h]
      first|exact fun _=>zC 0 (by simp[hd,h1,h2,this])|exact zC 0 (by simp[hd,h1,h2,this])
    .have h4:=sN (same:=yH) h3;have h5:¬((a.kids.length:Int)=b.kids.length):=by omega
     simp[zB,h1,h2,h3,h5]
     first|exact fun _ _=>zC 0 (by simp[hd,h4])|exact fun _=>zC 0 (by simp[hd,h4])|exact zC 0 (by simp[hd,h4])
   .have h3:iE a.id.a a.id.b a.id.c b.id.a b.id.b b.id.c=false:=by rw[eO];exact decide_eq_false h2
    simp[zB,h1,h3];exact zC 0 (by simp[hd,h2])
  .simp[zB,h1];exact zC 0 (by simp[hd,h1])
theorem zEP:∀(l:wT),∀x∈l,∀y:Typ,my 152 [.agg (zB x),.agg (zB y)] [] (bl (yH x y)) []
 |[],x,hx,_=>by simp at hx
 |z::l,x,hx,y=>by
  rcases jA3.1 hx with e|hx
  .rw[e];exact mQ z y
  .exact zEP l x hx y
end
structure Mk where
 mods:List Md
 defs:List Dfn
 l:List Int
 at_:Int
 temp:Int
 left:Int
 own:Int
 home:Id
 name:Int
def mkB(m:Mk):wF:=[.sl m.mods.length (qC m.mods),.row 1 m.defs.length,.sl m.l.length (y3 m.l),int m.at_,int m.temp,int m.left,int m.own,int m.home.a,int m.home.b,int m.home.c,int m.name]
def mkS(m:Mk):St:=[.box (mkB m),.row false 42 31 m.defs.length (zV m.defs)]
theorem zRp(m:Mk)(n:Int)(hn:0<n)(h0:0<=m.at_)(h1:m.at_<=1000000000000000) :
 my 85 [.ptr 0 0,int n] (mkS m) (int (atV m.l m.at_ n)) (mkS {m with at_:=m.at_+1}):=by
 refine zG func85 rfl qIw (rs:=[.slot 4]) (by kernel_rfl) ?_;unfold qAL;have w1:=z8 (m.at_+1) (by omega);have w2:=z8 m.at_ (by omega);simp[mkS,mkB,w1,w2];refine qB (dQ m.l m.at_ n hn) (by simp) (by simp) ?_;simp;exact mv [0,1] 0 (by rfl) (by simp)
theorem y5(m:Mk)(kind n:Int)(kids:wH)(h0:0<=m.temp)(h1:m.temp<=1000000000000000)(h2 : -1000000000000000<=m.left)(h3:m.left<=1000000000000000) :
 my 89 [.ptr 0 0,int kind,int n,.sl kids.length (qS kids)] (mkS m) (.agg (zH (.mk ⟨0,0,m.temp⟩ kind n Id.zero Typ.zero kids []))) (mkS {m with temp:=m.temp+1,left:=m.left-1}):=by
 refine zG func89 rfl zU4 (rs:=[.cell 8 15 true]) (by kernel_rfl) ?_;unfold zPy;have w1:=z8 (m.temp+1) (by omega);have w2:=z8 m.temp (by omega);have w3:=z8 (m.left-1) (by omega);simp[mkS,mkB,w1,w2,w3];exact mv [0,1] 0 (by rfl) (by simp[zH,Typ.zero,Id.zero,Typ.kids,Typ.k,Typ.id])
def scA:List EVar->A
 |[]=>.lit (.pointer none)
 |b::l=>.rptr (nV b++[scA l])
@[simp]theorem qHf:scA []=.lit (.pointer none):=rfl
theorem zJV(b:EVar)(l:wP):scA (b::l)=.rptr [.lit (.int .i64 b.id.a),.lit (.int .i64 b.id.b),.lit (.int .i64 b.id.c),.lit (.int .i64 b.n),.lit (.int .i64 b.v.k),.lit (.int .i64 b.v.n),.sl b.v.kids.length (zT b.v.kids),scA l]:=rfl
@[simp]theorem zRo:∀l:wP,nrm0 (scA l)=scA l
 |[]=>rfl
 |b::l=>by simp[zJV,zRo l]
@[simp]theorem zXY{rf:Bool->Nat->Nat->A}{g:Nat->wD}:∀l:wP,vw rf g (scA l)=scA l
 |[]=>rfl
 |b::l=>by simp[zJV,zXY l]
@[simp]theorem zUG(l:wP):cellsOf (scA l)=some [scA l]:=by cases l<;>rfl
abbrev scE(V:wP):A:=scA V.reverse
@[simp]theorem qHg:scE []=.lit (.pointer none):=rfl
@[simp]theorem qE4(V:wP)(b:EVar):scE (V++[b])=scA (b::V.reverse):=by simp[scE]
@[simp]theorem zZ4(V:wP)(a b:EVar):scE (V++[a,b])=scA (b::a::V.reverse):=by simp[scE]
def zR3(a b c n a' b' c' n':Int):Bool:=decide (Id.mk a b c=Id.mk a' b' c'/\n=n')
@[simp]theorem qE3{y:Id}{n m:Int}:zR3 x.a x.b x.c n y.a y.b y.c m=decide (x=y/\n=m):=rfl
@[simp]theorem qCZ{a b c n a' b' c' n':Int}:zBJ [.i,.i,.i,.i] false (.agg [.lit (.int .i64 a),.lit (.int .i64 b),.lit (.int .i64 c),.lit (.int .i64 n)]) (.agg [.lit (.int .i64 a'),.lit (.int .i64 b'),.lit (.int .i64 c'),.lit (.int .i64 n')]) =
 some (.lit (.bool (zR3 a b c n a' b' c' n'))):=by simp[zBJ,yE,eM,cK,and_assoc,zR3]
@[simp]theorem qJg:zA prog 218=true:=by kernel_rfl
@[simp]theorem qFF:zA prog 216=true:=by kernel_rfl
@[simp]theorem zYy:zA prog 223=true:=by kernel_rfl
@[simp]theorem qGl:zA prog 232=true:=by kernel_rfl
@[simp]theorem qJ3:zA prog 220=true:=by kernel_rfl
@[simp]theorem qC7:zA prog 217=true:=by kernel_rfl
def zUl:K:=G [kO 1 0,kZ 2 [(.map none),(.map none)]] (G [⟨none,.mop (some 9) (.mk 3) []⟩,⟨none,.mop (some 10) (.mk 3) []⟩,kb 11 [(.map none),(.map none)] [(0,1,(kt 9)),(1,1,(kt 10))],kZ 3 [(.map none),(.map none)],S 3 11 2] (G [kZ 4 [.nilFunc]] (G [⟨none,.clo (some 12) 126 [] [(kt 3),(kt 4)]⟩,S 4 12 1] (Z (G [D 13 1 1,L 14 13 1,kN 15 14,kMi 16 0] (K.block 0 (K.loop (G [kB 17 16 15 .lss] (Z (Y 17 ks (K.exit 0)) (Z (K.block 1 (G [kX 18 14 16 31,J 19 18 31,kZ 6 kz0,S 6 19 31] (Z (G [D 21 3 0,L 22 21 1,D 23 6 0,J 24 23 3,⟨none,.mop (some 25) (.get 3 (.agg #[ki,ki,ki,ki,ki,ki,ki,(.string ⟨#[]⟩),kl,ki,ki,ki,ki,kl,ki,ki,ki,ki,ki,ki,ki,ki,ki,ki,ki,ki,kl,kl,kl,ki,kl]) true) [(kt 22),(kt 24)]⟩,M 20 25,kE 26 20 0,kE 27 20 1,kZ 7 kz0,S 7 26 31,M 8 27] (G [M 28 8,kR 29 28] (Y 29 (K.ops [D 30 3 0,L 31 30 1,D 32 6 0,J 33 32 3,J 34 6 31,⟨none,.mop none (.set 3) [(kt 31),(kt 33),(kt 34)]⟩]) ks))) (G [J 35 6 31,kC 36 101 [(kt 35)]] (Y 36 (K.ops [L 37 4 1,D 38 6 14,J 39 38 15,⟨none,.call (some 40) (kt 37) [(kt 39)]⟩]) ks))))) (K.ops [kBi 41 16 1 .add,M 16 41]))))))) (G [J 42 3 2,S 2 42 2] kr)))))
theorem qBU:ky f60 zUl:=m_ (by kernel_rfl)
def zPG:K:=G [kO 3 0] (Z (G [D 9 1 1,L 10 9 1,D 11 3 0,J 12 11 3,⟨none,.mop (some 13) (.get 3 (.agg #[ki,ki,ki,ki,ki,ki,ki,ki,ki,ki,ki,ki,kl,kl,kl]) true) [(kt 10),(kt 12)]⟩,M 8 13,kE 14 8 0,kE 15 8 1,kZ 4 kz1,S 4 14 15,M 5 15] (G [M 16 5,kR 17 16] (Y 17 (K.ops [D 18 1 1,L 19 18 1,D 20 3 0,J 21 20 3,J 22 3 15,⟨none,.mop none (.set 3) [(kt 19),(kt 21),(kt 22)]⟩]) ks))) (G [D 23 3 13,L 24 23 1,kN 25 24,kMi 26 0] (K.block 0 (K.loop (G [kB 27 26 25 .lss] (Z (Y 27 ks (K.exit 0)) (Z (K.block 1 (G [kX 28 24 26 15,J 29 28 15,kZ 7 kz1,S 7 29 15] (K.ops [L 30 2 1,J 31 7 15,⟨none,.call (some 32) (kt 30) [(kt 31)]⟩]))) (K.ops [kBi 33 26 1 .add,M 26 33]))))))))
theorem zWf:ky f126 zPG:=m_ (by kernel_rfl)
def zE:wF:=[.lit (.int .i64 0),.lit (.int .i64 0),.lit (.int .i64 0),.lit (.int .i64 0),.lit (.int .i64 0),.lit (.int .i64 0),.lit (.int .i64 0),.lit (.int .i64 0),.lit (.int .i64 0),.lit (.int .i64 0),.lit (.int .i64 0),.lit (.int .i64 0),.nil,.nil,.nil]
def zD:wF:=[.lit (.int .i64 0),.lit (.int .i64 0),.lit (.int .i64 0),.lit (.int .i64 0),.lit (.int .i64 0),.lit (.int .i64 0),.lit (.int .i64 0),.lit (.string ⟨#[]⟩),.nil,.lit (.int .i64 0),.lit (.int .i64 0),.lit (.int .i64 0),.lit (.int .i64 0),.nil,.lit (.int .i64 0),.lit (.int .i64 0),.lit (.int .i64 0),.lit (.int .i64 0),.lit (.int .i64 0),.lit (.int .i64 0),.lit (.int .i64 0),.lit (.int .i64 0),.lit (.int .i64 0),.lit (.int .i64 0),.lit (.int .i64 0),.lit (.int .i64 0),.nil,.nil,.nil,.lit (.int .i64 0),.nil]
@[simp]theorem zYN{z:Value}{a:A}:tJ z true (some a)=.tup [a,.lit (.bool true)]:=rfl
@[simp]theorem zWW:tJ (.agg #[(.int .i64 0),(.int .i64 0),(.int .i64 0),(.int .i64 0),(.int .i64 0),(.int .i64 0),(.int .i64 0),(.int .i64 0),(.int .i64 0),(.int .i64 0),(.int .i64 0),(.int .i64 0),(.slice none 0 0),(.slice none 0 0),(.slice none 0 0)]) true none=.tup [.agg zE,.lit (.bool false)]:=by kernel_rfl
@[simp]theorem zWV:tJ (.agg #[(.int .i64 0),(.int .i64 0),(.int .i64 0),(.int .i64 0),(.int .i64 0),(.int .i64 0),(.int .i64 0),(.string ⟨#[]⟩),(.slice none 0 0),(.int .i64 0),(.int .i64 0),(.int .i64 0),(.int .i64 0),(.slice none 0 0),(.int .i64 0),(.int .i64 0),(.int .i64 0),(.int .i64 0),(.int .i64 0),(.int .i64 0),(.int .i64 0),(.int .i64 0),(.int .i64 0),(.int .i64 0),(.int .i64 0),(.int .i64 0),(.slice none 0 0),(.slice none 0 0),(.slice none 0 0),(.int .i64 0),(.slice none 0 0)]) true none=.tup [.agg zD,.lit (.bool false)]:=by kernel_rfl
@[simp]theorem qL7:zE.length=15:=rfl
@[simp]theorem qL6:zD.length=31:=rfl
def eC{α:Type}(idf : α->Id)(enc : α->wF)(l:List α):List (wC×A):=l.map fun x=>(dE (idf x),.agg (enc x))
def yZ{α:Type}(idf : α->Id)(l:List α)(i:Id):Option α:=l.find? fun x=>decide (idf x=i)
theorem fX{α:Type}{idf : α->Id}{enc : α->wF}{i:Id}:∀(l:List α),bP (dE i) (eC idf enc l)=(yZ idf l i).map fun x=>.agg (enc x)
 |[]=>rfl
 |x::l=>by
  simp only[eC,jAc,bP,yZ,jC5];by_cases h:idf x=i
  .simp[h]
  .have h':¬dE (idf x)=dE i:=fun e=>h (tO.1 e)
   simp only[h',if_false,h,decide_false];exact fX l
theorem zCh{α:Type}{idf : α->Id}{enc : α->wF}{x : α}:∀(l:List α),yZ idf l (idf x)=none->mG (dE (idf x)) (.agg (enc x)) (eC idf enc l)=eC idf enc (l++[x])
 |[],_=>rfl
 |y::l,h=>by
  simp only[yZ,jC5]at h;split at h
  .cases h
  .rename_i hy;have h':¬dE (idf y)=dE (idf x):=fun e=>by have:=tO.1 e;simp[this]at hy
   simp only[eC,jAc,mG,h',if_false,jBf]
   congr 1
   exact zCh l h
@[simp]theorem zMK{α:Type}{idf : α->Id}{enc : α->wF}(hp:∀x,qT (enc x))(l:List α):((eC idf enc l).map fun p=>(p.1,vw rf g p.2))=eC idf enc l:=by
 simp only[eC,jCb];refine jC6 fun x _=>?_
 simp[(hp x).2]
@[simp]theorem qGL(l:wH):((eC Exp.id zH l).map fun p=>(p.1,vw rf g p.2))=eC Exp.id zH l:=zMK xP l
@[simp]theorem qGK(l:wS):((eC Dfn.id zQ l).map fun p=>(p.1,vw rf g p.2))=eC Dfn.id zQ l:=zMK p7 l
def cE{α:Type}(idf : α->Id)(l:List α)(x : α):List α:=if (yZ idf l (idf x)).isSome then l else l++[x]
mutual
def zFA:Exp->List Exp->wH
 | .mk i k n r t l nm,N=>lV l (cE Exp.id N (.mk i k n r t l nm))
def lV:List Exp->List Exp->wH
 |[],N=>N
 |e::l,N=>lV l (zFA e N)
end
theorem zKv(e:Exp)(N:wH):zFA e N=lV e.kids (cE Exp.id N e):=by cases e;simp only[zFA,Exp.kids]
theorem zAs(x:Exp):∀(l:wH) (N:wH),lV (l++[x]) N=zFA x (lV l N)
 |[],N=>by simp only[jBp,lV]
 |e::l,N=>by simp only[jBf,lV,zAs x l]
def fN(D:wS)(N:wH):St:=[.box [.map 2,.map 3],.box [.clo 126 [] [.ptr 0 0,.ptr 1 0]],.mp true 3 (eC Dfn.id zQ D),.mp true 3 (eC Exp.id zH N)]
mutual
theorem zFl:∀(e:Exp) (D:wS) (N:wH),my 126 [.agg (zH e),.ptr 0 0,.ptr 1 0] (fN D N) (.tup []) (fN D (zFA e N))
 | .mk i k n r t l nm,D,N=>by
  have ih:=zGN l;generalize ha:Exp.mk i k n r t l nm=e;have hal:e.kids=l:=by rw[<-ha];rfl
  rw[<-hal]at ih;refine zG func126 rfl zWf (rs:=[]) (by kernel_rfl) ?_;unfold zPG;have hf:=fX (i:=e.id) (enc:=zH) (idf:=Exp.id) N;simp only[dE]at hf;cases hh:yZ Exp.id N e.id with
  |some x =>
   rw[hh]at hf;simp only[jC7]at hf;have hins:cE Exp.id N e=N:=by simp[cE,hh]
   simp[fN,zH,hf];intro hl;refine qH (S:=Nat) (fun i=>[(1,.ptr 0 0),(2,.ptr 1 0),(24,.sl e.kids.length (qS e.kids)),(25,int e.kids.length),(26,int i)]) (fun i=>fN D (lV (e.kids.take i) (cE Exp.id N e))) (fun i=>i<=e.kids.length) (fun i=>e.kids.length-i) 0 (by simp)
    (mw [0,1,2,3] 0 (by rfl) (by simp[fN,lV,hins])) ?_
   intro i hi;by_cases h:i<e.kids.length
   .have hlt:i*15<e.kids.length*15:=by omega
    have hsn:=zAs e.kids[i] (e.kids.take i) (cE Exp.id N e);rw[<-jA8 h]at hsn;simp[fN,h,yX h,zH];refine mr (ih e.kids[i] (jA0 h) D (lV (e.kids.take i) (cE Exp.id N e))) [0,1,2,3] (by simp[fN,zH]) ?_;simp[fN];exact zN (i+1) h (by omega) (mw [0,1,2,3] 0 (by rfl) (by simp[fN,hsn,zY h hl]))
   .have hil:i=e.kids.length:=by omega
    subst hil;rw[jB2,<-zKv];simp[fN];exact mv [0,1,2,3] 0 (by rfl) (by simp)
  |none =>
   rw[hh]at hf;simp only[jCz]at hf;have hp:=zCh (enc:=zH) (idf:=Exp.id) (x:=e) N hh;simp only[dE]at hp;have hins:cE Exp.id N e=N++[e]:=by simp[cE,hh]
   simp only[zH]at hp;simp[fN,zH,hf,hp];intro hl;refine qH (S:=Nat) (fun i=>[(1,.ptr 0 0),(2,.ptr 1 0),(24,.sl e.kids.length (qS e.kids)),(25,int e.kids.length),(26,int i)]) (fun i=>fN D (lV (e.kids.take i) (cE Exp.id N e))) (fun i=>i<=e.kids.length) (fun i=>e.kids.length-i) 0 (by simp)
    (mw [0,1,2,3] 0 (by rfl) (by simp[fN,lV,hins])) ?_
   intro i hi;by_cases h:i<e.kids.length
   .have hlt:i*15<e.kids.length*15:=by omega
    have hsn:=zAs e.kids[i] (e.kids.take i) (cE Exp.id N e);rw[<-jA8 h]at hsn;simp[fN,h,yX h,zH];refine mr (ih e.kids[i] (jA0 h) D (lV (e.kids.take i) (cE Exp.id N e))) [0,1,2,3] (by simp[fN,zH]) ?_;simp[fN];exact zN (i+1) h (by omega) (mw [0,1,2,3] 0 (by rfl) (by simp[fN,hsn,zY h hl]))
   .have hil:i=e.kids.length:=by omega
    subst hil;rw[jB2,<-zKv];simp[fN];exact mv [0,1,2,3] 0 (by rfl) (by simp)
theorem zGN:∀(l:wH),∀x∈l,∀(D:wS) (N:wH),my 126 [.agg (zH x),.ptr 0 0,.ptr 1 0] (fN D N) (.tup []) (fN D (zFA x N))
 |[],x,hx,_,_=>by simp at hx
 |z::l,x,hx,D,N=>by
  rcases jA3.1 hx with e|hx
  .rw[e];exact zFl z D N
  .exact zGN l x hx D N
end
def mV(l:wS):wS:=l.foldl (cE Dfn.id) []
def zJ2(N:wH)(d:Dfn):wH:=if eV d.kind then zFA d.body N else N
def oL(l:wS):wH:=l.foldl zJ2 []
theorem zNZ{l:wS}(h:i<l.length):mV (l.take (i+1))=cE Dfn.id (mV (l.take i)) l[i]:=by rw[mV,jA8 h,jBr];rfl
theorem zOC{l:wS}(h:i<l.length):oL (l.take (i+1))=zJ2 (oL (l.take i)) l[i]:=by rw[oL,jA8 h,jBr];rfl
theorem zNb(p:Prg):my 60 [.agg (zI p)] [] (.agg [.map 0,.map 1]) [.mp true 3 (eC Dfn.id zQ (mV p.defs)),.mp true 3 (eC Exp.id zH (oL p.defs))]:=by
 refine zG func60 rfl qBU (rs:=[.cell 2 2 true]) (by kernel_rfl) ?_;unfold zUl;simp[zI];intro hl;generalize p.defs=l at hl ⊢;refine qH (S:=Nat) (fun i=>[(2,.ptr 4 0),(3,.ptr 0 0),(4,.ptr 1 0),(14,.sl l.length (zV l)),(15,int l.length),(16,int i)]) (fun i=>fN (mV (l.take i)) (oL (l.take i))++[.box [.lit (.map none),.lit (.map none)]]) (fun i=>i<=l.length) (fun i=>l.length-i) 0 (by simp)
  (mw [4,5,2,3,1] 0 (by rfl) (by simp[fN,mV,oL,eC])) ?_
 intro i hi;by_cases h:i<l.length
 .have hlt:i*31<l.length*31:=by omega
  have h1:=zNZ h;have h2:=zOC h;generalize mV (l.take i)=D at h1 ⊢;generalize oL (l.take i)=N at h2 ⊢;generalize hd:l[i]=d at h1 h2;have hcd:=j5 h;rw[hd]at hcd;have hf:=fX (i:=d.id) (enc:=zQ) (idf:=Dfn.id) D;simp only[dE]at hf;cases hh:yZ Dfn.id D d.id with
  |some x =>
   rw[hh]at hf;simp only[jC7]at hf;have hins:cE Dfn.id D d=D:=by simp[cE,hh]
   rw[hins]at h1;simp[fN,h,hcd,zQ,hf];refine mu (uO d) (by simp[zQ]) ?_;cases hb:eV d.kind with
   |true =>
    rw[zJ2,if_pos hb]at h2;simp;refine mr (zFl d.body D N) [0,1,2,3] (by simp[fN,zH]) ?_;simp[fN];exact zN (i+1) h (by omega) (mw [0,1,2,3,4] 0 (by rfl) (by simp[fN,h1,h2,zY h hl]))
   |false =>
    rw[zJ2,if_neg (by simp[hb])]at h2;simp;exact zN (i+1) h (by omega) (mw [0,1,2,3,4] 0 (by rfl) (by simp[fN,h1,h2,zY h hl]))
  |none =>
   rw[hh]at hf;simp only[jCz]at hf;have hp:=zCh (enc:=zQ) (idf:=Dfn.id) (x:=d) D hh;simp only[dE,zQ]at hp;have hins:cE Dfn.id D d=D++[d]:=by simp[cE,hh]
   rw[hins]at h1;simp[fN,h,hcd,zQ,hf,hp];refine mu (uO d) (by simp[zQ]) ?_;cases hb:eV d.kind with
   |true =>
    rw[zJ2,if_pos hb]at h2;simp;refine mr (zFl d.body (D++[d]) N) [0,1,2,3] (by simp[fN,zH]) ?_;simp[fN];exact zN (i+1) h (by omega) (mw [0,1,2,3,4] 0 (by rfl) (by simp[fN,h1,h2,zY h hl]))
   |false =>
    rw[zJ2,if_neg (by simp[hb])]at h2;simp;exact zN (i+1) h (by omega) (mw [0,1,2,3,4] 0 (by rfl) (by simp[fN,h1,h2,zY h hl]))
 .have hil:i=l.length:=by omega
  subst hil;simp[fN];exact mv [2,3] 0 (by rfl) (by simp)
def zUj:K:=G [kO 2 0,kO 3 1,kZ 4 kz0,kMb 5 false] (Z (G [kMi 6 0] (K.block 0 (K.loop (Z (G [M 7 6,D 8 2 1,L 9 8 1,kN 10 9,kB 11 7 10 .lss] (Y 11 ks (K.exit 0))) (Z (K.block 1 (Z (K.dops [(0,0,D 14 2 1),(1,0,L 15 14 1),(2,0,M 16 6),(3,0,kX 17 15 16 31),(4,0,D 18 17 0),(5,0,J 19 18 3),(6,0,J 20 3 3),(7,0,⟨none,.eqs (some 21) false [.i,.i,.i] (kt 19) (kt 20)⟩)]) (Y 21 (G [D 22 2 1,L 23 22 1,M 24 6,kX 25 23 24 31,J 26 25 31,S 4 26 31,kMb 5 true] kr) ks))) (K.ops [M 12 6,kBi 13 12 1 .add,M 6 13])))))) (G [kb 27 kz0 [],S 4 27 31,kMb 5 false] kr))
theorem qBS:ky f26 zUj:=m_ (by kernel_rfl)
structure Bnd where
 id:Id
 n:Int
 typ:Typ
abbrev wJ:=List Bnd
def bZ(b:Bnd):wF:=[.lit (.int .i64 b.id.a),.lit (.int .i64 b.id.b),.lit (.int .i64 b.id.c),.lit (.int .i64 b.n),.lit (.int .i64 b.typ.k),.lit (.int .i64 b.typ.id.a),.lit (.int .i64 b.typ.id.b),.lit (.int .i64 b.typ.id.c),.sl b.typ.kids.length (jL b.typ.kids)]
theorem xO(b:Bnd):qT (bZ b):=by have h1:=yK b.typ.kids;exact⟨by simp[bZ,h1.1],fun rf g=>by simp[bZ,h1.2]⟩
def zU(l:wJ):wF:=l.flatMap bZ
theorem zA4(l:wJ):qT (zU l):=cN xO l
@[simp]theorem zVd(l:wJ):jE (zU l)=zU l:=(zA4 l).1
@[simp]theorem zZJ{rf g}(l:wJ):vwL rf g (zU l)=zU l:=(zA4 l).2 _ _
@[simp]theorem zWo:zU []=[]:=rfl
theorem zC4(x:Bnd)(l:wJ):zU (x::l)=bZ x++zU l:=rfl
theorem vN(l l':wJ):zU (l++l')=zU l++zU l':=by simp only[zU,jC9]
@[simp]theorem zWn(l:wJ):(zU l).length=l.length*9:=by rw[zU,dS (k:=9) (fun _=>rfl)]
theorem gA{l:wJ}(h:i<l.length):(zU l).drop (i*9)=bZ l[i]++zU (l.drop (i+1)):=by rw[zU,zU,gE (k:=9) (fun _=>rfl) h]
theorem zB6{l:wJ}(h:i<l.length):zU (l.take (i+1))=zU (l.take i)++bZ l[i]:=by rw[zU,zU,gP (k:=9) (fun _=>rfl) h]
@[simp]theorem qCI(d:Bnd):(bZ d).length=9:=rfl
@[simp]theorem qCH(d:Bnd):(bZ d).take 9=bZ d:=jAh (jA _)
@[simp]theorem zY7(d:Bnd)(l:wF):(bZ d++l).take 9=bZ d:=by rw[jCa (by simp)];exact jAh (by simp)
@[simp]theorem zZe(d:Bnd):jE (bZ d)=bZ d:=(xO d).1
@[simp]theorem qHu(d:Bnd) {rf g}:vwL rf g (bZ d)=bZ d:=(xO d).2 _ _
theorem tmN{x k:Int}(h:0<=x):x.tmod k=x % k:=Int.tmod_eq_emod_of_nonneg h
theorem tdN{x k:Int}(h:0<=x):x.tdiv k=x / k:=Int.tdiv_eq_ediv_of_nonneg h
theorem zDr(m:Mk)(h0:0<=m.name)(h1:m.name<=1000000000000000) :
 ∃s:ByteArray,my 90 [.ptr 0 0] (mkS m) (.lit (.string s)) (mkS {m with name:=m.name+1}):=by
 have w1:=z8 (m.name+1) (by omega);have e1:(m.name+1).tmod 3=(m.name+1) % 3:=tmN (by omega);have e2:(m.name+1).tdiv 3=(m.name+1) / 3:=tdN (by omega);have e3:((m.name+1).tdiv 3).tmod 8=((m.name+1) / 3) % 8:=by rw[e2];exact tmN (by omega)
 have w2:IntKind.i64.wrap ((m.name+1).tdiv 3)=(m.name+1).tdiv 3:=IntWalk.i64_in _ (by rw[e2];omega);have a0:0<=(m.name+1).tmod 3:=by omega
 have a1:(m.name+1).tmod 3<3:=by omega
 have b0:0<=((m.name+1).tdiv 3).tmod 8:=by omega
 have b1:((m.name+1).tdiv 3).tmod 8<8:=by omega
 have hA:∃s1 rest,s1.size<=10/\List.drop ((m.name+1).tmod 3).toNat [A.lit (.string ⟨#[117]⟩),A.lit (.string ⟨#[118]⟩),A.lit (.string ⟨#[119]⟩)]=A.lit (.string s1)::rest:=by
  have:((m.name+1).tmod 3).toNat=0\/((m.name+1).tmod 3).toNat=1\/((m.name+1).tmod 3).toNat=2:=by omega
  rcases this with e|e|e<;>rw[e]<;>exact⟨_,_,by decide,rfl⟩
 have hB:∃s1 rest,s1.size<=10/\List.drop (((m.name+1).tdiv 3).tmod 8).toNat [A.lit (.string ⟨#[]⟩),A.lit (.string ⟨#[49]⟩),A.lit (.string ⟨#[50]⟩),A.lit (.string ⟨#[51]⟩),A.lit (.string ⟨#[52]⟩),A.lit (.string ⟨#[53]⟩),A.lit (.string ⟨#[54]⟩),A.lit (.string ⟨#[55]⟩)]=A.lit (.string s1)::rest:=by
  generalize ((m.name+1).tdiv 3).tmod 8=b at b0 b1;have:b.toNat=0\/b.toNat=1\/b.toNat=2\/b.toNat=3\/b.toNat=4\/b.toNat=5\/b.toNat=6\/b.toNat=7:=by omega
  rcases this with e|e|e|e|e|e|e|e<;>rw[e]<;>exact⟨_,_,by decide,rfl⟩
 obtain⟨sa,ra,hsa,hA⟩:=hA;obtain⟨sb,rb,hsb,hB⟩:=hB;refine⟨sa++sb,?_⟩;refine zG func90 rfl qBQ (rs:=[.slot 2]) (by kernel_rfl) ?_;unfold zUf;have h3:((m.name+1).tmod 3).toNat<3:=by omega
 have h8:(((m.name+1).tdiv 3).tmod 8).toNat<8:=by omega
 simp[mkS,mkB,w1,w2,hA,hB,a0,a1,b0,b1,h3,h8];refine⟨by omega,?_⟩;exact mv [0,1] 0 (by rfl) (by simp)
theorem zRU(m:Mk)(b:Bnd)(h0:0<=m.temp)(h1:m.temp<=1000000000000000)(h2 : -1000000000000000<=m.left)(h3:m.left<=1000000000000000) :
 my 87 [.ptr 0 0,.agg (bZ b)] (mkS m) (.agg (zH (.mk ⟨0,0,m.temp⟩ 2 b.n b.id Typ.zero [] []))) (mkS {m with temp:=m.temp+1,left:=m.left-1}):=by
 refine zG func87 rfl qCj (rs:=[.cell 4 15 true]) (by kernel_rfl) ?_;unfold zUx;simp[mkS,mkB,bZ];refine mr (y5 m 2 b.n [] h0 h1 h2 h3) [0,1] (by simp[mkS,mkB]) ?_;simp[mkS,mkB,zH];exact mv [0,1] 0 (by rfl) (by simp)
theorem zDX(env:wJ)(t:Typ)(hE:env.length<=1000000):my 86 [.sl env.length (zU env),.agg (zB t)] [] (.sl (env.filter fun b=>yH b.typ t).length (zU (env.filter fun b=>yH b.typ t))) []:=by
 refine zG func86 rfl zPX (rs:=[.slot 4]) (by kernel_rfl) ?_;unfold zHZ;simp[zB];refine qH (S:=Nat) (fun i=>[(0,.sl env.length (zU env)),(3,.ptr 0 0),(5,.row 1 ((env.take i).filter fun b=>yH b.typ t).length),(6,int i)]) (fun i=>[.box (zB t),.row false 101 9 ((env.take i).filter fun b=>yH b.typ t).length (zU ((env.take i).filter fun b=>yH b.typ t))]) (fun i=>i<=env.length) (fun i=>env.length-i) 0 (by simp)
  ((jS (t:=5) (by simp) 101 9).trans (mw [0,1] 0 (by rfl) (by simp[zB]))) ?_
 intro i hi;by_cases h:i<env.length
 .simp[h,gA h,bZ,zB];intro hl;refine qB (mQ env[i].typ t) (by simp[zB]) (by simp) ?_;have hst:((env.take (i+1)).filter fun b=>yH b.typ t)=((env.take i).filter fun b=>yH b.typ t)++(if yH env[i].typ t then [env[i]]else []):=by rw[jA8 h,jCs];cases hs:yH env[i].typ t<;>simp[hs]
  cases hs:yH env[i].typ t
  .simp;rw[hs]at hst;simp only[jAj,if_false,jAs]at hst;exact zN (i+1) h (by omega) (mw [0,1] 0 (by rfl) (by simp[zB,hst,zY h hl]))
  .simp[h,gA h,bZ];rw[hs]at hst;simp only[if_true]at hst;have hle:((env.take i).filter fun b=>yH b.typ t).length<=i:=jB1 (jBg _ _) (by simp;omega);refine⟨⟨by simp[maxLen];omega,by omega⟩,?_⟩;exact zN (i+1) h (by omega) (mw [0,1] 0 (by rfl) (by simp[zB,hst,vN,zC4,bZ,zY h hl]))
 .have:i=env.length:=by omega
  subst this;simp;exact fun _=>zC 1 (by simp)
theorem i9(env:wJ)(b:Bnd)(hE:env.length<=1000000):my 91 [.sl env.length (zU env),.agg (bZ b)] [] (.sl (env.length+1) (zU (env++[b]))) []:=by refine zJ func91 rfl zWg (rs:=[.slot 4]) (by kernel_rfl) ?_;unfold zPH;simp[bZ];exact⟨⟨by simp[maxLen];omega,by omega⟩,⟨by simp[maxLen];omega,by omega⟩,zC 1 (by simp[vN,zC4,bZ])⟩
def zHI(ds:wS):St:=[.row false 42 31 ds.length (zV ds)]
def zI5(ds:wS)(i:Id):Dfn×Bool:=match ds.find? fun d=>decide (d.id=i)with
 |some d=>(d,true)
 |none=>(Dfn.zero,false)
theorem zFU{ds:wS}(h:i<ds.length)(hn:∀d∈ds.take i,d.id≠x)(he:ds[i].id=x):(ds.find? fun d=>decide (d.id=x))=some ds[i]:=by
 have e:ds=ds.take i++ds[i]::ds.drop (i+1):=by rw[<-jBb h,jBs]
 have h1:((ds.take i).find? fun d=>decide (d.id=x))=none:=jD5.2 fun d hd=>by simpa using hn d hd
 have h2:∀y,y=ds[i]->(ds.find? fun d=>decide (d.id=x))=some y:=fun y hy=>by rw[<-hy]at e he;rw[e,List.find?_append,h1];simp[he]
 exact h2 _ rfl
theorem zJG(M:List Md)(ds:wS)(x:Id)(hL:ds.length<=1000000):my 26 [.agg [.sl M.length (qC M),.row 0 ds.length],.agg (zX x)] (zHI ds) (.tup [.agg (zQ (zI5 ds x).1),bl (zI5 ds x).2]) (zHI ds):=by
 refine zG func26 rfl qBS (rs:=[.cell 4 31 true,.slot 5]) (by kernel_rfl) ?_;unfold zUj;simp[zHI,zX];refine qH (S:=Nat) (fun i=>[(2,.ptr 1 0),(3,.ptr 2 0),(4,.ptr 3 0),(6,int i)]) (fun _=>[.row false 42 31 ds.length (zV ds),.box [.sl M.length (qC M),.row 0 ds.length],.box (zX x),.box (zQ Dfn.zero)]) (fun i=>i<=ds.length/\∀d∈ds.take i,d.id≠x) (fun i=>ds.length-i) 0 (by simp)
  (mw [0,1,2,3] 0 (by rfl) (by simp[zX,zQ,Dfn.zero,Id.zero,Typ.zero,Exp.zero])) ?_
 rintro i ⟨hi,hn⟩;by_cases h:i<ds.length
 .have hd:=j5 h;have hb3:i*31+3<=ds.length*31:=by omega
  have hb31:i*31+31<=ds.length*31:=by omega
  have hw:=yU i (by omega);by_cases he:ds[i].id=x
  .have hv:zI5 ds x=(ds[i],true):=by unfold zI5;rw[zFU h hn he]
   have he3:iE ds[i].id.a ds[i].id.b ds[i].id.c x.a x.b x.c=true:=by rw[eO];exact decide_eq_true he
   simp[h,hd,zX,zQ,he3,hb3,hb31];exact mv [0] 0 (by rfl) (by simp[hv,zQ])
  .have he3:iE ds[i].id.a ds[i].id.b ds[i].id.c x.a x.b x.c=false:=by rw[eO];exact decide_eq_false he
   simp[h,hd,zX,zQ,he3,hb3,hb31];exact zN (i+1) ⟨h,fun d hd'=>by
    rw[jA8 h]at hd';rcases jA6.1 hd' with hd'|hd'
    .exact hn d hd'
    .rw[jAk.1 hd'];exact he⟩ (by omega) (mw [0,1,2,3] 0 (by rfl) (by simp[zX,zQ,Dfn.zero,Id.zero,Typ.zero,Exp.zero,hw]))
 .have:i=ds.length:=by omega
  subst this;rw[jB2]at hn;have hv:zI5 ds x=(Dfn.zero,false):=by unfold zI5;rw[jD5.2 fun d hd=>by simpa using hn d hd]
  simp[zQ,Dfn.zero,Id.zero,Typ.zero,Exp.zero]
  first|exact fun _=>mv [0] 0 (by rfl) (by simp[hv,zQ,Dfn.zero,Id.zero,Typ.zero,Exp.zero])|exact mv [0] 0 (by rfl) (by simp[hv,zQ,Dfn.zero,Id.zero,Typ.zero,Exp.zero])
end Go.Proofs.YtolkhapmieigcaaGreatDoor
