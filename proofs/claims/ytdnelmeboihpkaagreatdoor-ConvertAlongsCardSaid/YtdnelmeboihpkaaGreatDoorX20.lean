/- convert.paths: the recursive closure that visits. -/
import Derived.Test.YtdnelmeboihpkaaGreatDoorX19
set_option linter.unusedVariables false
set_option maxHeartbeats 8000000
set_option maxRecDepth 100000
set_option linter.unusedSimpArgs false
open Go.Proofs.Tryz
namespace Go.Abs
section
variable{P:Program}{env:Env}{d:wC} {U:St}
theorem zNq{K:wK}{f:FuncId}{args args':wE}{r:A}{s0 s1:St}(h:Ret P f args s0 r (s0++s1))(js:wA)(hjs:js.Nodup)(hlen:s0.length=js.length)(ho:aB U j5 (qP js) js s0)(ha:dD js args' args)
 (hput:q9 U js (s0.map (cH js U.length)) = U)(hq:K (env.put d (ren js U.length r)) (U++s1.map (cH js U.length))):zBM P U d K f args' env :=
 ⟨_,_,a8.append _ _,cS h js hjs ho ha ⟨rfl,by
  have:=zA8 (js:=js) (ks:=[]) (s:=U) (a:=s0.map (cH js U.length)) (b:=s1.map (cH js U.length)) (by simpa using hlen);rw[jBa,hput]at this;rw[jC0,this,q9]⟩,hq⟩
end
end Go.Abs
namespace Go.Proofs.YtdnelmeboihpkaaGreatDoor
open Go.Abs
theorem zIY(l:wF)(h:l≠[])(hb:l.length<=1000000):my 100 [.row 0 l.length] [.row false 31 3 l.length (zV l)] (.row 1 l.length) ([.row false 31 3 l.length (zV l)]++[.row false 31 3 l.length (zV l)]):=by
 refine zI func100 rfl zQH (rs:=[.slot 2]) (by kernel_rfl) ?_;unfold zKZ;have h0:l.length≠0:=by simpa using h
 simp[h,h0,zPf];refine⟨⟨by simp[maxLen];omega,by omega⟩,?_⟩;exact mv [0,1] 0 (by rfl) (by simp)
theorem zH5:my 100 [.row 0 0] [.row false 31 3 0 []] (.sl 0 []) ([.row false 31 3 0 []]++[]):=by refine zI func100 rfl zQH (rs:=[.slot 2]) (by kernel_rfl) ?_;unfold zKZ;simp[zPf];exact⟨mv [0] 0 (by rfl) (by simp),mv [0] 0 (by rfl) (by simp)⟩
@[simp]theorem zDV:∀(l:wF) (k:Nat),dT k (zV l)=true
 |[],_=>rfl
 |d::l,k=>by rw[fL];simp[zDV l k]
def zAg(L:wU)(to:Id)(n:Nat)(at_:Id)(met:wF)(e:Edg):List wF:=if e.fro=at_/\e.to∉met then (eN L to n e.to (met++[e.to])).map (e.id::·)else []
variable{to:Id}{met:wF}
theorem zL5{L:wU}{n:Nat}{at_:Id}(h:at_≠to)(hn:zDe L met<=n):eN L to n at_ met=L.flatMap (zAg L to (n-1) at_ met):=by
 cases n with
 |zero =>
  unfold eN;rw[if_neg h];symm;rw[List.flatMap_eq_nil_iff];intro e he;unfold zAg;rw[if_neg];rintro⟨_,h'⟩;have:=p9 he h';omega
 |succ n =>
  unfold eN;rw[if_neg h];rfl
theorem zPw{L:wU}{n:Nat}{at_:Id}{e:Edg}(he:e∈L)(hn:zDe L met<=n)(h:e.fro≠at_\/e.to∈met\/¬Rchs L to met e.to):zAg L to (n-1) at_ met e=[]:=by
 unfold zAg;by_cases hc:e.fro=at_/\e.to∉met
 .rw[if_pos hc];rcases h with h|h|h
  .exact(h hc.1).elim
  .exact(hc.2 h).elim
  .have hlt:=p9 he hc.2;have:=zEt (n-1) e.to (met++[e.to]) (L:=L) (to:=to) (by omega);rw[List.map_eq_nil_iff];refine Decidable.byContradiction fun h0=>h ?_
   exact(this.1 h0).mono fun x hx=>jBm _ hx
 .rw[if_neg hc]
def zVE:K:=K.wk (G [kO 7 0,kMb 8 false] (Z (G [J 12 7 3,J 13 1 3,⟨none,.eqs (some 14) false [.i,.i,.i] (kt 12) (kt 13)⟩] (Y 14 (Z (K.dops [(0,1,L 15 2 1),(1,1,L 16 3 1),(2,3,kC 17 100 [(kt 16)]),(3,4,⟨none,.call (some 18) (kt 15) [(kt 17)]⟩),(4,0,M 8 18)]) kr) ks)) (Z (G [L 19 4 1,kN 20 19,kMi 21 0] (K.block 0 (K.loop (G [kB 22 21 20 .lss] (Z (Y 22 ks (K.exit 0)) (Z (K.block 1 (G [kX 23 19 21 9,J 24 23 9,kZ 10 [ki,ki,ki,ki,ki,ki,ki,ki,ki],S 10 24 9] (Z (G [D 25 10 3,J 26 25 3,J 27 7 3,⟨none,.eqs (some 28) true [.i,.i,.i] (kt 26) (kt 27)⟩,M 29 28,T 29 false (L 30 5 1),T 29 false (D 31 10 6),T 29 false (J 32 31 3),⟨some (29,false),.mop (some 33) (.get 3 (.bool false) false) [(kt 30),(kt 32)]⟩,kPt 34 29 33,M 35 34,T 35 false (L 36 4 1),T 35 false (D 37 10 6),T 35 false (J 38 37 3),T 35 false (J 39 1 3),T 35 false (L 40 5 1),T 35 false (kC 41 101 [(kt 36),(kt 38),(kt 39),(kt 40)]),T 35 false (kR 42 41),kPt 43 35 42] (Y 43 (K.exit 1) ks)) (G [L 44 5 1,D 45 10 6,J 46 45 3,⟨none,.mop none (.set 3) [(kt 44),(kt 46),(.const (.bool true))]⟩] (G [L 47 3 1,D 48 10 0,J 49 48 3,kd 50 31 3 1 [ki,ki,ki] [(0,3,(kt 49))],kP 51 31 3 24 47 50,S 3 51 1] (G [L 52 6 1,D 53 10 6,J 54 53 3,⟨none,.call (some 55) (kt 52) [(kt 54)]⟩,M 11 55] (G [L 56 3 1,L 57 3 1,kN 58 57,kBi 59 58 1 .sub,⟨none,.shr (some 60) (kt 56) 3 (kt 59)⟩,S 3 60 1] (G [L 61 5 1,D 62 10 6,J 63 62 3,⟨none,.mop none (.del 3) [(kt 61),(kt 63)]⟩] (G [M 64 11,kR 65 64] (Y 65 (G [kMb 8 false] kr) ks)))))))))) (K.ops [kBi 66 21 1 .add,
 M 21 66]))))))) (G [kMb 8 true] kr))))
def qF6:Nat->Option wD:=fun|2=>k_ [1,1,3,4,0]|_=>none
theorem qEi:kx f99 qF6 zVE:=mz (by kernel_rfl)
@[simp]theorem zTL:zF prog 99=true:=by kernel_rfl
def nA(b m:Nat)(L:wU)(to:Id)(fr:Bool)(met:wF)(l n:Nat):St :=
 [.box [yv b],.box [.sl L.length (yX L)],.mp fr 3 (mrk met),.box [.map (m+2)],.box [.row (m+l) n],.box [.clo 99 [] [.rptr (zL to),.ptr m 0,.ptr (m+4) 0,.ptr (m+1) 0,.ptr (m+3) 0,.ptr (m+5) 0]]]
def zGd(b m:Nat)(L:wU)(to:Id)(fr:Bool)(met path:wF):St:=nA b m L to fr met 6 path.length++[AObj.row false 31 3 path.length (zV path)]
def zD7(b m:Nat)(L:wU)(to:Id)(met path:wF):St:=nA b m L to false met 7 path.length++[AObj.dead,AObj.row false 31 3 path.length (zV path)]
theorem zTs{n0 b m:Nat}{L:wU}{fr:Bool}{path:wF}{S:St}(hS:S.length=m){env:Env}:bW n0 env (S++zD7 b m L to met path) env (S++zGd b m L to fr met path):=by
 have h1:=zVw (n0:=n0) (env:=env) (U:=S++zGd b m L to fr met path) (j:=m+4) (o:=0) (l:=m+6) (n:=path.length) (sz:=3) (e:=31) (ds:=[.row (m+6) path.length]) (cs:=zV path)
  (by rw[aL hS];rfl) rfl (by rw[aL hS];rfl)
 have e1:((S++zGd b m L to fr met path).set (m+6) .dead).set (m+4) (.box ([A.row (m+6) path.length].set 0 (.row (S++zGd b m L to fr met path).length path.length)))++[AObj.row false 31 3 path.length (zV path)] =
  S++(nA b m L to fr met 7 path.length++[AObj.dead,AObj.row false 31 3 path.length (zV path)]):=by
  rw[cM hS,cM hS,jAq,jA5,hS];simp[zGd,nA]
 rw[e1]at h1;have h2:=zFA (n0:=n0) (env:=env) (U:=S++(nA b m L to fr met 7 path.length++[AObj.dead,AObj.row false 31 3 path.length (zV path)])) (l:=m+2) (nk:=3) (fr:=fr) (es:=mrk met) (by rw[aL hS];rfl);have e2:(S++(nA b m L to fr met 7 path.length++[AObj.dead,AObj.row false 31 3 path.length (zV path)])).set (m+2) (.mp false 3 (mrk met))=S++zD7 b m L to met path:=by rw[cM hS];simp[zD7,nA]
 rw[e2]at h2;exact h1.trans h2
def zDI(m:Nat)(at_ to:Id):wE:=[.agg (zL at_),.rptr (zL to),.ptr m 0,.ptr (m+4) 0,.ptr (m+1) 0,.ptr (m+3) 0,.ptr (m+5) 0]
theorem zP4{L:wU}(hL:L.length<=1000)(to:Id)(b m:Nat)(T:Nat->St)(X:List wE)(hT:∀i,i<=X.length->Cl m (T i))
 (hY:∀i (h:i<X.length),iO prog b X[i] (T i) fun o τ=>o=.ret (.lit (.bool true))/\τ = T (i+1)) :
 ∀(n:Nat) (at_:Id) (met path:wF) (fr:Bool) (i:Nat),zDe L met<=n->path.length+n<=2000->i+(eN L to n at_ met).length<=X.length ->
  (∀q (hq:q<(eN L to n at_ met).length) (h:i+q<X.length),X[i+q]=[.sl (path++(eN L to n at_ met)[q]).length (zV (path++(eN L to n at_ met)[q]))]) ->
  my 99 (zDI m at_ to) (T i++zGd b m L to fr met path) (bl true) (T (i+(eN L to n at_ met).length)++zD7 b m L to met path):=by
 intro n;induction n using Nat.strongRecOn with
 |ind n ih =>
 intro at_ met path fr i hn hpn hi hX
 have hTi:=hT i (by omega);have hTe:=hT (i+(eN L to n at_ met).length) hi;have hlen0:(T i++zGd b m L to fr met path).length=m+7:=by rw[jA5,hTi.1];simp[zGd,nA]
 refine zM func99 rfl qEi (rs:=[.slot 8]) (by kernel_rfl) ?_;unfold zVE;rw[qAs,hlen0];rw[qAt];refine⟨_,_,zTs hTi.1,?_⟩;unfold zDI;simp[zD7,nA,hTi.1,aL hTi.1,aW hTi.1,zL];by_cases hat:at_=to
 .have hE:eN L to n at_ met=[[]]:=by subst hat;cases n<;>simp[eN]
  subst hat;rw[hE]at hX hTe hi;simp only[jAz]at hX hTe hi;have hyi:=hY i (by omega);have hXi:=hX 0 (by omega) (by omega);simp only[jC3,jCw,jBa]at hXi;rw[hXi]at hyi;rw[hE,jAz];simp[hTi.1,aL hTi.1,aW hTi.1,zAU];by_cases hp:path=[]
  .subst hp;refine zNq zH5 [m+7] (by simp) rfl (by simp[aL hTi.1]) (by simp) (by simp[cM hTi.1]) ?_;simp[hTi.1,aL hTi.1,aW hTi.1];refine⟨_,_,zBW hTi hTe hyi (by simp) ⟨rfl,rfl⟩,?_⟩;exact zCE (own':=zD7 b m L at_ met []) hTe rfl [0,1,2,3,4,5,6,7] 0 (by decide) (by decide) (by simp[zD7,nA,zL]) (by simp)
  .refine zNq (zIY path hp (by omega)) [m+7] (by simp) rfl (by simp[aL hTi.1]) (by simp) (by simp[cM hTi.1]) ?_;simp[hTi.1,aL hTi.1,aW hTi.1];refine exY (k:=9) rfl hTi hTe (zDV path 0) hyi ?_;simp;exact zCE (own':=zD7 b m L at_ met path) hTe rfl [0,1,2,3,4,5,6,7] 0 (by decide) (by decide) (by simp[zD7,nA,zL]) (by simp)
 .have hE:=zL5 (L:=L) (n:=n) (met:=met) hat hn;generalize hEE:eN L to n at_ met=E at *
  have hspl:∀j,E=(L.take j).flatMap (zAg L to (n-1) at_ met)++(L.drop j).flatMap (zAg L to (n-1) at_ met):=fun j=>by rw[<-jBz,jCb];exact hE
  obtain⟨cnt,hcd⟩:∃cnt:Nat->Nat,∀j,cnt j=((L.take j).flatMap (zAg L to (n-1) at_ met)).length:=⟨_,fun _=>rfl⟩;have hcnt:∀j,cnt j<=E.length:=fun j=>by rw[hcd,hspl j,jA5];omega
  have hc0:cnt 0=0:=by rw[hcd];simp
  have hcL:cnt L.length=E.length:=by rw[hcd,jAu,hE]
  simp[hTi.1,aL hTi.1,aW hTi.1,hat];intro hlm;refine qO (S:=Nat) (fun j=>[(1,.rptr (zL to)),(2,.ptr m 0),(3,.ptr (m+4) 0),(4,.ptr (m+1) 0),(5,.ptr (m+3) 0),(6,.ptr (m+5) 0),(7,.ptr (m+8) 0),(19,.sl L.length (yX L)),(20,int L.length),(21,int j)])
   (fun j=>T (i+cnt j)++(nA b m L to false met 7 path.length++[AObj.dead,AObj.row false 31 3 path.length (zV path),AObj.box (zL at_)]))
   (fun j=>j<=L.length) (fun j=>L.length-j) 0 (by simp) ?_ ?_
  .rw[hc0];exact zHe hTi rfl [0,1,2,3,4,5,6,7,8] 0 (by decide) (by decide) (by simp[nA,zL]) (by simp[zL])
  intro j hj;have hTj:=hT (i+cnt j) (by have:=hcnt j;omega);by_cases h:j<L.length
  .have hw:=jY j (by omega);have hel:L[j]∈L:=jA0 h;have hsucc:cnt (j+1)=cnt j+(zAg L to (n-1) at_ met L[j]).length:=by rw[hcd,hcd,jA8 h,jBz,List.flatMap_singleton,jA5]
   have hle:=hcnt (j+1);have hg:=zE3 L[j].to met;have hnone:=zPw (L:=L) (to:=to) (at_:=at_) (met:=met) hel hn;by_cases c1:L[j].fro=at_
   .by_cases c2:L[j].to∈met
    .rw[hnone (.inr (.inl c2)),jB9,jC3]at hsucc;simp[nA,hTj.1,aL hTj.1,aW hTj.1,cM hTj.1,h,dY h,dE,zL,c1,c2,hg];refine zS (j+1) h (by omega) ?_;rw[hsucc];exact zHe hTj rfl [0,1,2,3,4,5,6,7,8] 0 (by decide) (by decide) (by simp[nA,zL]) (by simp[zL,hw])
    .simp[nA,hTj.1,aL hTj.1,aW hTj.1,cM hTj.1,h,dY h,dE,zL,c1,c2,hg];refine zW (zMy L hL L[j].to to met false) [m+2] (by simp) (by simp[aL hTj.1]) (by simp[zL]) ?_;simp[hTj.1,aL hTj.1,aW hTj.1,cM hTj.1];by_cases c3:Rchs L to met L[j].to
     .have hlt:=p9 hel c2;have hpe:zAg L to (n-1) at_ met L[j]=(eN L to (n-1) L[j].to (met++[L[j].to])).map (L[j].id::·):=by rw[zAg,if_pos ⟨c1,c2⟩]
      have hput:=zFc L[j].to met c2;have hdel:=zJa L[j].to met c2;simp only[zA2]at hput hdel;rw[hpe,jAb]at hsucc;have hsucc':i+cnt (j+1)=i+cnt j+(eN L to (n-1) L[j].to (met++[L[j].to])).length:=by omega
      have hcall:=ih (n-1) (by omega) L[j].to (met++[L[j].to]) (path++[L[j].id]) false (i+cnt j) (by omega) (by simp;omega) (by omega) (fun q hq hqx=>by
       have h2:cnt j+q<E.length:=by omega
       have:=hX (cnt j+q) h2 (by omega);have hEq:E[cnt j+q]=L[j].id::(eN L to (n-1) L[j].to (met++[L[j].to]))[q]:=by
        have h3:E[cnt j+q]?=some (L[j].id::(eN L to (n-1) L[j].to (met++[L[j].to]))[q]):=by rw[hspl j,jAy (by rw[<-hcd];omega),<-hcd,Nat.add_sub_cancel_left,jAp h,jBb,hpe,jAj (by simpa using hq),jBs,jA1 hq];rfl
        rw[jA1 h2]at h3;exact jB0 h3
       rw[hEq]at this
       simpa[jBk]using this)
      have hT1:=hT (i+cnt j+(eN L to (n-1) L[j].to (met++[L[j].to])).length) (by omega);simp[hTj.1,aL hTj.1,aW hTj.1,cM hTj.1,c3,hput];refine⟨⟨by simp[maxLen];omega,by omega⟩,?_⟩;have hcs:zV (path++[L[j].id])=zV path++[.lit (.int .i64 L[j].id.a),.lit (.int .i64 L[j].id.b),.lit (.int .i64 L[j].id.c)]:=by rw[yH];rfl
      have htk:(zV path++[A.lit (.int .i64 L[j].id.a),.lit (.int .i64 L[j].id.b),.lit (.int .i64 L[j].id.c)]).take (path.length*3)=zV path:=by rw[jC6 (by simp)];exact jAe (by simp)
      refine zQP hTj hT1 hcall [0,1,2,3,4,5,7] (by decide) (by simp[zGd,nA,zL,hcs]) (by simp[zDI,zL]) ?_;have hwp:IntKind.i64.wrap (path.length:Int)=path.length:=IntWalk.i64_in _ (by omega);simp[zD7,nA,zL,hcs,hT1.1,aL hT1.1,aW hT1.1,cM hT1.1,hdel,hwp,htk];refine⟨by omega,?_⟩;refine zS (j+1) h (by omega) ?_;rw[hsucc'];exact zHe hT1 rfl [0,1,2,3,4,5,6,11,8] 0 (by decide) (by decide) (by simp[nA,zL]) (by simp[zL,hw])
     .rw[hnone (.inr (.inr c3)),jB9,jC3]at hsucc;simp[c3];refine zS (j+1) h (by omega) ?_;rw[hsucc];exact zHe hTj rfl [0,1,2,3,4,5,6,7,8] 0 (by decide) (by decide) (by simp[nA,zL]) (by simp[zL,hw])
   .rw[hnone (.inl c1),jB9,jC3]at hsucc;simp[nA,hTj.1,aL hTj.1,aW hTj.1,cM hTj.1,h,dY h,dE,zL,c1];refine zS (j+1) h (by omega) ?_;rw[hsucc];exact zHe hTj rfl [0,1,2,3,4,5,6,7,8] 0 (by decide) (by decide) (by simp[nA,zL]) (by simp[zL,hw])
  .have hj':j=L.length:=by omega
   subst hj';rw[hcL]at hTj ⊢;simp[hTj.1,aL hTj.1,aW hTj.1];exact zCE (own':=zD7 b m L to met path) hTe rfl [0,1,2,3,4,5,6,7] 0 (by decide) (by decide) (by simp[zD7,nA,zL]) (by simp)
def jZ(l:List wF):wE:=l.map fun q=>.sl q.length (zV q)
@[simp]theorem zW6(l:List wF):(jZ l).length=l.length:=by simp[jZ]
@[simp]theorem zW7:jZ []=[]:=rfl
theorem zEb(a b:List wF):jZ (a++b)=jZ a++jZ b:=by simp[jZ]
theorem sF(q:wF)(l:List wF):jZ (q::l)=.sl q.length (zV q)::jZ l:=rfl
theorem pJ:∀(l:List wF),qV (jZ l)
 |[]=>qV.nil
 |q::l=>qV.sl (dZ q) (pJ l)
@[simp]theorem zUJ(l:List wF):jO (jZ l)=jZ l:=(pJ l).1
@[simp]theorem qAi{rf g}(l:List wF):vwL rf g (jZ l)=jZ l:=(pJ l).2 _ _
@[simp]theorem zIJ:∀(l:List wF) (k:Nat),dT k (jZ l)=true
 |[],_=>rfl
 |q::l,k=>by rw[sF];simp[zIJ l k]
variable{i:Nat}
theorem fY{l:List wF}(h:i<l.length):(jZ l).drop i=.sl l[i].length (zV l[i])::jZ (l.drop (i+1)):=by rw[jZ,<-List.map_drop,jAp h];rfl
@[simp]theorem zXR(l:List Md)(k:Nat):dT k (qG l)=true:=(sE l).bnd k
@[simp]theorem zXQ(l:wQ)(k:Nat):dT k (z6 l)=true:=(r9 l).bnd k
@[simp]theorem qDQ(d:Id)(k:Nat):dT k (zL d)=true:=by simp[zL]
theorem zOz(p:Prg)(fro to:Id):my 53 [.agg (zN p),.agg (zL fro),.agg (zL to)] [] (.clo 97 [] [.rptr (zN p),.rptr (zL fro),.rptr (zL to)]) []:=by
 refine mq [] [.slot 6] func53 (by kernel_rfl) ?_
 (conv in kq _ _=>cbv)
 simp[zN,zL];exact zA 1 (by simp)
@[simp]theorem zTK:zF prog 97=true:=by kernel_rfl
@[simp]theorem qI0:zF prog 99=true:=zTL
def bM(p:Prg)(fro to:Id):List wF:=eN (bY p) to (bY p).length fro [fro]
variable{p:Prg}{hs:wP}
theorem zL3(hf:Fit p hs):(bY p).length<=100:=by
 have h1:(bY p).length=(gO p).length:=by rw[<-mG hf];exact(fU _).length_eq
 have h2:=jDe yB p.defs;have h3:=hf.len8;unfold gO at h1;omega
theorem zMo(hf:Fit p hs)(fro to:Id):zMX prog 97 [] [.rptr (zN p),.rptr (zL fro),.rptr (zL to)] ((bM p fro to).map fun q=>[.sl q.length (zV q)]):=by
 refine vC fun b m T hT hY=>?_
 have h0:=hT 0 (jB4 _);have hn:=hT _ (jA _);have hP:=eP p;have hL:=zL3 hf;have hm1:putI [fro.a,fro.b,fro.c] (.lit (.bool true)) []=mrk [fro]:=rfl;have hvis:=zP4 (L:=bY p) (by omega) to b m T _ hT hY (bY p).length fro [fro] [] true 0 (zRC _) (by simp;omega) (by simp[bM]) (fun q hq hqx=>by simp[bM]);refine mj [15] [] [] [] func97 (by kernel_rfl) ?_
 (conv in kH _ _ _=>cbv)
 simp[h0.1,aW h0.1,hP];refine mu (zRi hf) (by simp[hP]) ?_;simp[h0.1,aL h0.1,aW h0.1,cM h0.1,zBF h0.1,zL,hm1,jBk];have hw:=yJ (n0:=m) (env:=qS [(2,.rptr (zL fro)),(8,.ptr (m+5) 0)]) (l:=m+4) (o:=0) (U:=T 0++[AObj.box [yv b],.box [.sl (bY p).length (yX (bY p))],.mp true 3 (mrk [fro]),.box [.map (m+2)],.box [.nil],
  .box [.clo 99 [] [.rptr (zL to),.ptr m 0,.ptr (m+4) 0,.ptr (m+1) 0,.ptr (m+3) 0,.ptr (m+5) 0]]]) (by rw[aL h0.1];rfl) rfl 31 3
 rw[cM h0.1,jAq,jA5,h0.1]at hw;refine⟨_,_,(zHe (c:=0) h0 rfl [0,1,2,3,4,5] 0 (by simp) (by decide) (by simp[zL]) (by simp[zL])).trans hw,?_⟩;simp[h0.1,aL h0.1,aW h0.1];rw[jB1]at hvis;have hn':Cl m (T (eN (bY p) to (bY p).length fro [fro]).length):=by simpa[bM]using hn
 refine zQP h0 hn' hvis [0,1,2,3,4,5,6] (by decide) (by simp[zGd,nA,zL]) (by simp[zDI,zL]) ?_;simp;exact zIn hn' (by simp)
def oA(p:Prg)(fro to:Id):A:=if gG p fro=true/\gG p to=true then .tup [.sl (bM p fro to).length (jZ (bM p fro to)),int 0]else .tup [.sl 0 [],int 6]
theorem zDK(hf:Fit p hs)(fro to:Id)(h64:(bM p fro to).length<=64):my 20 [.agg (zN p),.agg (zL fro),.agg (zL to)] [] (oA p fro to) []:=by
 have hP:=eP p;refine mq [] [.cell 6 1 false,.cell 7 1 false] func20 (by kernel_rfl) ?_
 (conv in kq _ _=>cbv)
 simp[hP,zL];refine mu (zHk p fro) (by simp[hP,zL]) ?_;by_cases h1:gG p fro=true
 .simp[h1];refine mu (zHk p to) (by simp[hP,zL]) ?_;by_cases h2:gG p to=true
  .simp[h2];refine mu (zOz p fro to) (by simp[hP,zL]) ?_;simp;refine⟨[(6,.ptr 3 0),(7,.ptr 4 0),(8,.ptr 5 0),(23,.clo 97 [] [.rptr (zN p),.rptr (zL fro),.rptr (zL to)])],7,(bM p fro to).map (fun q=>[.sl q.length (zV q)]),
    fun j=>[.box (zN p),.box (zL fro),.box (zL to),.box [.sl 0 []],.box [int 0],.box [.row 6 j],.row false 28 1 j (jZ ((bM p fro to).take j))],97,[],[.rptr (zN p),.rptr (zL fro),.rptr (zL to)],by simp[hP,zL],zTK,zMo hf fro to,?_,by omega,?_,by simp[hP,zL],by simp,?_,?_⟩
   .exact(yJ (l:=5) (o:=0) rfl rfl 28 1).trans (mw [0,1,2,3,4,5,6] 0 (by rfl) (by simp[hP,zL]))
   .intro i hi;simp[hP,zL]
   .intro i hi b' M r r';simp only[jAb]at hi;have htk:(bM p fro to).take (i+1)=(bM p fro to).take i++[(bM p fro to)[i]]:=jA8 hi;have hne:¬((i:Int)=64):=by omega
    simp[hne];exact⟨⟨by simp[maxLen];omega,by omega⟩,Wk.here (by rw[htk,zEb];rfl)⟩
   .have htk:(bM p fro to).take (bM p fro to).length=bM p fro to:=jAu;simp[htk];exact zA 1 (by simp[oA,h1,h2])
  .have h2':gG p to=false:=by simpa using h2
   simp[h2'];exact zA 0 (by simp[oA,h2'])
 .have h1':gG p fro=false:=by simpa using h1
  simp[h1'];exact zA 0 (by simp[oA,h1'])
theorem zPm(x y:Id):my 124 [.agg (zL x),.agg (zL y)] [] (bl (bZ x y)) []:=by
 refine mq [] [.slot 4] func124 (by kernel_rfl) ?_
 (conv in kq _ _=>cbv)
 by_cases h1:x.a=y.a
 .by_cases h2:x.b=y.b
  all_goals
   simp[zL,h1,h2];exact zA 0 (by simp[bZ,h1,h2])
 .simp[zL,h1];exact zA 0 (by simp[bZ,h1])
theorem zPA(a b:wF):my 31 [.sl a.length (zV a),.sl b.length (zV b)] [] (bl (decide (a=b))) []:=by
 refine mq [] [.slot 4] func31 (by kernel_rfl) ?_
 (conv in kq _ _=>cbv)
 by_cases hab:a.length=b.length
 .have hab':(a.length:Int)=b.length:=by omega
  simp[hab];intro hlb;refine qO (S:=Nat) (fun i=>[(0,.sl a.length (zV a)),(1,.sl b.length (zV b)),(5,int i)]) (fun s=>[]) (fun i=>i<=a.length/\a.take i=b.take i) (fun i=>a.length-i) 0 (by simp)
   (mw [] 0 (by rfl) (by simp[hab])) ?_
  rintro i ⟨hi,hn⟩;by_cases h:i<a.length
  .have hb:i<b.length:=by omega
   simp[h,hb,yA h,yA hb];intro hl;refine jM (fun h'=>?_) (fun h'=>?_)<;>simp at h'<;>simp
   .have hx:a[i]≠b[i]:=fun e=>by rw[e]at h';simp at h'
    have hne:a≠b:=fun e=>hx (by subst e;rfl)
    exact zA 0 (by simp[hne])
   .have hx:a[i]=b[i]:=h';refine zS (i+1) ⟨h,?_⟩ (by omega) (mw [] 0 (by rfl) (by simp[qF h hl]));rw[jA8 h,jA8 hb,hn,hx]
  .have:i=a.length:=by omega
   subst this;simp;have:a=b:=by rw[jAu,hab,jAu]at hn;exact hn
   exact fun _=>zA 0 (by simp[this])
 .have hne:a≠b:=fun e=>hab (by rw[e])
  have hab':¬(a.length:Int)=b.length:=by omega
  simp[hab'];exact fun _ _=>zA 0 (by simp[hne])
def iL(x:Id)(s:wF×Bool)(y:Id):wF×Bool:=((s.1++(if s.2=false/\bZ y x=false then [x]else []))++(if y=x then []else [y]),s.2||!bZ y x)
def zJI(x:Id)(s:wF×Bool):wF:=if s.2 then s.1 else s.1++[x]
theorem zJJ(x:Id):∀(l:wF) (s:wF×Bool),(l.foldl (iL x) s).1.length<=s.1.length+2*l.length
 |[],s=>by simp
 |y::l,s=>by
  have:=zJJ x l (iL x s y);have h2:(iL x s y).1.length<=s.1.length+2:=by unfold iL;simp only[jA5];split<;>split<;>simp
  simp only[jBp,jA9];omega
theorem zCu(x:Id):∀(l:wF) (o:wF),x∉l->l.foldl (iL x) (o,true)=(o++l,true)
 |[],o,_=>by simp
 |y::l,o,h=>by
  have hy:y≠x:=fun e=>h (by simp[e])
  have:=zCu x l (o++[y]) (fun e=>h (by simp[e]));simp only[jBp,iL,Bool.true_eq_false,false_and,if_false,if_neg hy,jBa,Bool.true_or,this,jAq,jCu]
theorem zN6(x:Id):∀(l:wF) (o:wF),SS l->zJI x (l.foldl (iL x) (o,false))=o++mK l x
 |[],o,_=>by simp[zJI,mK]
 |y::l,o,h=>by
  obtain⟨h1,h2⟩:=jC5.1 h;by_cases hl:bZ y x=true
  .have hy:y≠x:=fun e=>by subst e;simp[bZ]at hl
   have:=zN6 x l (o++[y]) h2;simp only[jBp,iL,hl,Bool.not_true,Bool.or_false,if_neg hy,mK,if_true];simp only[Bool.true_eq_false,and_false,if_false,jBa];rw[this];simp
  .have hl':bZ y x=false:=by simpa using hl
   have hn:x∉l:=fun hx=>by have:=h1 x hx;rw[hl']at this;cases this
   simp only[jBp,iL,hl',Bool.not_false,Bool.or_true,and_self,if_true,mK,jAl,if_false];by_cases hy:y=x
   .subst hy;rw[zCu _ _ _ hn];simp[zJI]
   .rw[if_neg hy,if_neg hy,zCu _ _ _ hn];simp[zJI]
theorem zRW(l:wF)(x:Id)(hl6:l.length<=1000):my 82 [.sl l.length (zV l),.agg (zL x)] [] (.sl (zJI x (l.foldl (iL x) ([],false))).length (zV (zJI x (l.foldl (iL x) ([],false))))) []:=by
 refine mq [] [.slot 4] func82 (by kernel_rfl) ?_
 (conv in kq _ _=>cbv)
 simp[zL];refine qO (S:=Nat) (fun i=>[(0,.sl l.length (zV l)),(3,.ptr 0 0),(5,.row 1 ((l.take i).foldl (iL x) ([],false)).1.length),(6,bl ((l.take i).foldl (iL x) ([],false)).2),(7,int i)]) (fun i=>[.box (zL x),.row false 31 3 ((l.take i).foldl (iL x) ([],false)).1.length (zV ((l.take i).foldl (iL x) ([],false)).1)]) (fun i=>i<=l.length) (fun i=>l.length-i) 0 (by simp)
  ((yK (t:=5) (by simp) 31 3).trans (mw [0,1] 0 (by rfl) (by simp[zL]))) ?_
 intro i hi;have hmx:l.length<=maxLen:=by simp[maxLen];omega
 have hsl:=zJJ x (l.take i) ([],false);rw[jAs]at hsl;by_cases h:i<l.length
 .have hst:(l.take (i+1)).foldl (iL x) ([],false)=iL x ((l.take i).foldl (iL x) ([],false)) l[i]:=by rw[jA8 h,jCh];rfl
  generalize (l.take i).foldl (iL x) ([],false)=s at *
  obtain⟨o,d⟩:=s;simp only[jB9]at hsl;have hne:l≠[]:=fun e=>by rw[e]at h;simp at h
  have less:=zPm l[i] x;cases d
  .cases hls:bZ l[i] x
   .simp[h,yA h,zL,hne];intro _;refine qA less (by simp[zL]) (by simp) ?_;by_cases hx:l[i]=x
    .simp[h,yA h,zL,hne,hx,eG];refine⟨⟨by simp[maxLen];omega,by omega⟩,?_⟩;exact zS (i+1) h (by omega) (mw [0,1] 0 (by rfl) (by simp[zL,hst,iL,hx,eG,yH,zV,qF h hmx]))
    .simp[hls,h,yA h,zL,hne,hx];refine⟨⟨by simp[maxLen];omega,by omega⟩,?_⟩;refine⟨⟨by simp[maxLen];omega,by omega⟩,?_⟩;exact zS (i+1) h (by omega) (mw [0,1] 0 (by rfl) (by simp[zL,hst,iL,hx,hls,yH,zV,qF h hmx]))
   .have hx:¬l[i]=x:=fun e=>by rw[e,eG]at hls;cases hls
    simp[h,yA h,zL,hne];intro _;refine qA less (by simp[zL]) (by simp) ?_;simp[hls,h,yA h,zL,hne,hx];refine⟨⟨by simp[maxLen];omega,by omega⟩,?_⟩;exact zS (i+1) h (by omega) (mw [0,1] 0 (by rfl) (by simp[zL,hst,iL,hx,hls,yH,zV,qF h hmx]))
  .by_cases hx:l[i]=x
   .simp[h,yA h,zL,hne,hx];intro _;exact zS (i+1) h (by omega) (mw [0,1] 0 (by rfl) (by simp[zL,hst,iL,hx,yH,zV,qF h hmx]))
   .simp[h,yA h,zL,hne,hx];intro _;refine⟨⟨by simp[maxLen];omega,by omega⟩,?_⟩;exact zS (i+1) h (by omega) (mw [0,1] 0 (by rfl) (by simp[zL,hst,iL,hx,yH,zV,qF h hmx]))
 .have hie:i=l.length:=by omega
  subst hie;rw[jAu]at *
  generalize l.foldl (iL x) ([],false)=s at *
  obtain⟨o,d⟩:=s;cases d
  .simp[zL];intro _;have hsl2:o.length<=2*l.length:=by simpa using hsl
   refine⟨⟨by simp[maxLen];omega,by omega⟩,?_⟩;exact zA 1 (by simp[zJI,yH,zV])
  .simp[zL];exact fun _=>zA 1 (by simp[zJI])
theorem zRX{l:wF}(h:SS l)(x:Id)(hl:l.length<=1000):my 82 [.sl l.length (zV l),.agg (zL x)] [] (.sl (mK l x).length (zV (mK l x))) []:=by have:=zRW l x hl;rw[zN6 x l [] h]at this;exact this
def zRO:Nat->Option wD:=fun|5=>k_ [1,1,1,0,1,1,1,1,0,0,0,0,302,303,0,0,0]|_=>none
def cvI(p:Prg)(i:Nat):wF:=(((p.defs.take i).filter fun d=>(yG p d.id).isSome).map (·.id)).foldl mK []
theorem zRa(p:Prg)(i:Nat):SS (cvI p i):=zEx List.Pairwise.nil
theorem zNp(p:Prg)(i:Nat):(cvI p i).length<=i:=by have h1:=zNh (((p.defs.take i).filter fun d=>(yG p d.id).isSome).map (·.id)) [];have h2:=jCq (fun d=>(yG p d.id).isSome) (p.defs.take i);simp only[jAb,jAs,jB9]at h1 h2;unfold cvI;omega
theorem zNo(p:Prg):cvI p p.defs.length=aI p:=by
 refine(zRa p _).unique (zIs _) fun x=>?_
 unfold cvI aI;rw[zCm,zFt,jAu];simp
theorem zRb(p:Prg)(h:i<p.defs.length):cvI p (i+1)=if (yG p p.defs[i].id).isSome then mK (cvI p i) p.defs[i].id else cvI p i:=by
 unfold cvI;rw[jA8 h,jD8,jC0,jCh];by_cases hs:(yG p p.defs[i].id).isSome=true
 .simp[List.filter,hs]
 .simp[List.filter,hs]
theorem zQZ(p:Prg)(hp:p.defs.length<=100):my 35 [.agg (zN p)] [] (.sl (aI p).length (zV (aI p))) []:=by
 have hP:=eP p;refine ml zRO [16] [] [] [.slot 2] func35 (by kernel_rfl) ?_
 (conv in kH _ _ _=>cbv)
 simp[hP];refine qO (S:=Nat) (fun i=>[(1,.ptr 0 0),(3,.sl (cvI p i).length (zV (cvI p i))),(4,int i)]) (fun i=>[.box (zN p)]) (fun i=>i<=p.defs.length) (fun i=>p.defs.length-i) 0 (by simp)
  (mw [0] 0 (by rfl) (by simp[hP,cvI,zV])) ?_
 intro i hi;by_cases h:i<p.defs.length
 .have hl:=zNp p i;have hs:=zRb p h;have hd:=yD h;have hne:p.defs≠[]:=fun e=>by rw[e]at h;simp at h
  have hw:=qF h (show p.defs.length<=maxLen by simp[maxLen];omega);have hle:=nU p (by omega) p.defs[i].id;have hins:=zRX (zRa p i) p.defs[i].id (by omega);simp[hP,h];intro _;refine⟨_,_,yN 3,?_⟩;simp[List.replicate,h,hd,hne,zK];refine j3 hle (by simp[hP,zL]) (by simp[cP,zB]) ?_;cases hv:yG p p.defs[i].id with
  |none =>
   rw[hv]at hs;simp[cP,zB];exact zS (i+1) h (by omega) (mw [0] 0 (by rfl) (by simp[hP,hs,hw]))
  |some ab =>
   rw[hv]at hs;simp[cP,zB,h,hd,hne,zK];refine mu hins (by simp[zL]) ?_;simp;exact zS (i+1) h (by omega) (mw [0] 0 (by rfl) (by simp[hP,hs,hw]))
 .have hie:i=p.defs.length:=by omega
  subst hie;simp[hP];rw[zNo]
  first|exact fun _=>zA 0 (by simp)|exact zA 0 (by simp)
def zLa:K:=(G [D 29 6 13,L 30 29 1,kN 31 30,kMi 32 0] (K.block 0 (K.loop (G [kB 33 32 31 .lss] (Z (Y 33 ks (K.exit 0)) (Z (K.block 1 (G [kX 34 30 32 15,J 35 34 15,kZ 9 kz1,S 9 35 15] (Z (K.dops [(0,0,D 36 6 3),(1,0,L 37 36 1),(2,0,kQi 38 37 8 false),(3,0,M 39 38),(4,0,T 39 true (D 40 9 3)),(5,0,T 39 true (L 41 40 1)),(6,0,T 39 true (kQi 42 41 2 false)),(7,0,kPf 43 39 42),(8,0,M 44 43),(9,0,T 44 true (D 45 9 5)),(10,0,T 44 true (J 46 45 3)),(11,0,T 44 true (D 47 2 8)),(12,0,T 44 true (L 48 47 1)),(13,0,T 44 true (kXi 49 48 11 0)),(14,0,T 44 true (D 50 49 0)),(15,0,T 44 true (J 51 50 3)),(16,0,⟨some (44,true),.eqs (some 52) false [.i,.i,.i] (kt 46) (kt 51)⟩),(17,0,kPf 53 44 52),(18,0,M 10 53)]) (Z (G [M 54 10] (Y 54 (K.ops [L 55 4 1,D 56 6 4,L 57 56 1,⟨none,.mop none (.set 1) [(kt 55),(kt 57),(.const (.bool true))]⟩]) ks)) (K.ops [L 58 5 1,J 59 9 15,M 60 10,⟨none,.call (some 61) (kt 58) [(kt 59),(kt 60)]⟩]))))) (K.ops [kBi 62 32 1 .add,M 32 62])))))))
def zVI:K:=G [kO 6 0] (Z (Z (K.dops [(0,0,D 11 6 3),(1,0,L 12 11 1),(2,0,kQi 13 12 2 false),(3,0,M 14 13),(4,0,T 14 true (D 15 6 5)),(5,0,T 14 true (J 16 15 3)),(6,0,T 14 true (D 17 2 8)),(7,0,T 14 true (L 18 17 1)),(8,0,T 14 true (kXi 19 18 11 0)),(9,0,T 14 true (D 20 19 0)),(10,0,T 14 true (J 21 20 3)),(11,0,⟨some (14,true),.eqs (some 22) false [.i,.i,.i] (kt 16) (kt 21)⟩),(12,0,kPf 23 14 22)]) (Y 23 (K.ops [L 24 3 1,M 25 24,T 25 false (M 26 1),T 25 false (kR 27 26),kPt 28 25 27,S 3 28 1]) ks)) (K.wk zLa))
theorem qEq:ky f58 zVI:=m_ (by kernel_rfl)
def mki(l:wB):List (wB×A):=l.map fun x=>([x],.lit (.bool true))
def adI(l:wB)(x:Int):wB:=if x∈l then l else l++[x]
theorem zT6{l:wB}{x y:Int}:y∈adI l x↔y∈l\/y=x:=by
 unfold adI;split
 .rename_i h;exact⟨.inl,fun hh=>hh.elim id fun e=>e▸h⟩
 .simp
theorem zIA{y:Int}:∀(m l:wB),y∈m.foldl adI l↔y∈l\/y∈m
 |[],l=>by simp
 |x::m,l=>by rw[jBp,zIA m,zT6,jA3];exact or_assoc
theorem zNH(x:Int):∀l:wB,Go.Abs.putI [x] (.lit (.bool true)) (mki l)=mki (adI l x)
 |[]=>rfl
 |y::l=>by
  have ih:=zNH x l;simp only[mki,jAi,Go.Abs.putI]at ih ⊢;by_cases h:y=x
  .subst h;simp[adI]
  .have h':¬[y]=[x]:=fun e=>h (by simpa using e)
   have h2:¬x=y:=fun e=>h e.symm
   rw[if_neg h',ih];unfold adI;by_cases hx:x∈l
   .simp[hx]
   .simp[hx,h2]
theorem zJY(x:Int):∀l:wB,fF [x] (mki l)=if x∈l then some (.lit (.bool true))else none
 |[]=>rfl
 |y::l=>by
  have ih:=zJY x l;simp only[mki,jAi,fF]at ih ⊢;by_cases h:y=x
  .subst h;simp
  .have h':¬[y]=[x]:=fun e=>h (by simpa using e)
   have h2:¬x=y:=fun e=>h e.symm
   rw[if_neg h',ih];simp[h2]
theorem zUB(x:Int)(l:wB):sU (Value.bool false) false (fF [x] (mki l))=.lit (.bool (decide (x∈l))):=by rw[zJY];split<;>rename_i h<;>simp[sU,h,jJ,tC]
@[simp]theorem qMR{rf g}(l:wB):(mki l).map (fun p=>(p.1,vw rf g p.2))=mki l:=by unfold mki;rw[jCc];rfl
def fvS(D:wE)(w:Bool)(l:wB):St:=[.box [bl w],.box [.map 2],.mp false 1 (mki l),.box [.clo 58 [] [.rptr D,.ptr 0 0,.ptr 1 0,.ptr 3 0]]]
def fvA(D:wE)(e:Exp)(f:Bool):wE:=[.agg (zJ e),bl f,.rptr D,.ptr 0 0,.ptr 1 0,.ptr 3 0]
def zPX(D:wE)(s:Id)(e:Exp):Prop:=∀(f w:Bool) (l:wB),my 58 (fvA D e f) (fvS D w l) (.tup []) (fvS D (w||pV s e f) ((zCx s e).foldl adI l))
theorem zMR(s:Id)(e:Exp)(f:Bool):pV s e f=((decide (e.k=2)&&decide (e.ref=s)&&!f)||hU s (decide (e.k=8)) e.kids):=by cases e;rfl
theorem zSs(s:Id)(e:Exp):zCx s e=zA4 s (decide (e.k=8)) e.n e.kids:=by cases e;rfl
theorem zDw(s:Id)(f:Bool):∀(l:wG) {i:Nat} (h:i<l.length),hU s f (l.take (i+1))=(hU s f (l.take i)||pV s l[i] (f&&isS s l[i]))
 |[],i,h=>by simp at h
 |e::l,0,_=>by simp[hU]
 |e::l,i+1,h=>by simp only[jCd,hU,jDc];rw[zDw s f l (by simpa using h),Bool.or_assoc]
theorem zGL(s:Id)(f:Bool)(n:Int):∀(l:wG) {i:Nat} (h:i<l.length),zA4 s f n (l.take (i+1))=zA4 s f n (l.take i)++((if (f&&isS s l[i])=true then [n]else [])++zCx s l[i])
 |[],i,h=>by simp at h
 |e::l,0,_=>by simp[zA4]
 |e::l,i+1,h=>by simp only[jCd,zA4,jDc];rw[zGL s f n l (by simpa using h)];simp
theorem zHV(s:Id)(k:Exp):isS s k=(decide (k.k=2)&&decide (k.ref=s)):=rfl
theorem zYU(D D':wE)(u:Slt)(hD:D.drop 8=.sl 1 (j4 u)::D')(hv:∀rf g,vwL rf g D=D)(hn:jO D=D)(e:Exp)(ih:∀k∈e.kids,zPX D u.id k)(f w:Bool)(l:wB) :
 wpK prog 4 zLa (fin [] (rY 4 (.tup []) (fvS D (w||hU u.id (decide (e.k=8)) e.kids) ((zA4 u.id (decide (e.k=8)) e.n e.kids).foldl adI l)))) (qS [(2,.rptr D),(3,.ptr 0 0),(4,.ptr 1 0),(5,.ptr 3 0),(6,.ptr 4 0)]) (fvS D w l++[.box (zJ e)]):=by
 obtain⟨b8,hb8⟩:∃b,b=decide (e.k=8):=⟨_,rfl⟩;rw[<-hb8];unfold zLa;simp[fvS,zJ];intro hmx;refine qO (S:=Nat) (fun i=>[(2,.rptr D),(3,.ptr 0 0),(4,.ptr 1 0),(5,.ptr 3 0),(6,.ptr 4 0),(30,.sl e.kids.length (qQ e.kids)),(31,int e.kids.length),(32,int i)])
  (fun i=>fvS D (w||hU u.id b8 (e.kids.take i)) ((zA4 u.id b8 e.n (e.kids.take i)).foldl adI l)++[.box (zJ e)]) (fun i=>i<=e.kids.length) (fun i=>e.kids.length-i) 0 (by simp)
  (mw [0,1,2,3,4] 0 (by rfl) (by simp[fvS,hv,zJ,hU,zA4])) ?_
 intro i hi;by_cases h:i<e.kids.length
 .have hw:=qF h hmx;have hwt:=zDw u.id b8 e.kids h;have hmt:=zGL u.id b8 e.n e.kids h;have hne:¬e.kids=[]:=fun e'=>by rw[e']at h;simp at h
  have hk:=ih e.kids[i] (jA0 h);generalize hww:(w||hU u.id b8 (e.kids.take i))=wi at *
  generalize hll:(zA4 u.id b8 e.n (e.kids.take i)).foldl adI l=li at *
  have fold1:∀own:Bool,(b8&&isS u.id e.kids[i])=own->(zA4 u.id b8 e.n (e.kids.take (i+1))).foldl adI l=(zCx u.id e.kids[i]).foldl adI (if own then adI li e.n else li):=fun own ho=>by rw[hmt,jCh,jCh,hll,ho];cases own<;>rfl
  have whole1:∀own:Bool,(b8&&isS u.id e.kids[i])=own->(w||hU u.id b8 (e.kids.take (i+1)))=(wi||pV u.id e.kids[i] own):=fun own ho=>by rw[hwt,ho,<-Bool.or_assoc,hww]
  have hput:=zNH e.n li;by_cases c8:e.k=8
  .by_cases ck:e.kids[i].k=2
   .by_cases cr:e.kids[i].ref=u.id
    .have ho:(b8&&isS u.id e.kids[i])=true:=by simp[hb8,zHV,c8,ck,cr]
     have e1:=fold1 _ ho;have e2:=whole1 _ ho;have hc:=hk true wi (adI li e.n);simp[fvS,zJ,h,hne,y5 h,c8,ck,cr,hD,j4,eQ,hput];refine mr hc [0,1,2,3] (by simp[fvS,hv,fvA,zJ,ck,cr]) ?_;simp[fvS];exact zS (i+1) h (by omega) (mw [0,1,2,3,4] 0 (by rfl) (by simp[fvS,hv,zJ,e1,e2,c8,hw]))
    .have ho:(b8&&isS u.id e.kids[i])=false:=by simp[zHV,cr]
     have e1:=fold1 _ ho;have e2:=whole1 _ ho;have hc:=hk false wi li;simp[fvS,zJ,h,hne,y5 h,c8,ck,cr,hD,j4,eQ];refine mr hc [0,1,2,3] (by simp[fvS,hv,fvA,zJ,ck]) ?_;simp[fvS];exact zS (i+1) h (by omega) (mw [0,1,2,3,4] 0 (by rfl) (by simp[fvS,hv,zJ,e1,e2,c8,hw]))
   .have ho:(b8&&isS u.id e.kids[i])=false:=by simp[zHV,ck]
    have e1:=fold1 _ ho;have e2:=whole1 _ ho;have hc:=hk false wi li;simp[fvS,zJ,h,hne,y5 h,c8,ck];refine mr hc [0,1,2,3] (by simp[fvS,hv,fvA,zJ,c8]) ?_;simp[fvS];exact zS (i+1) h (by omega) (mw [0,1,2,3,4] 0 (by rfl) (by simp[fvS,hv,zJ,e1,e2,c8,hw]))
  .have ho:(b8&&isS u.id e.kids[i])=false:=by simp[hb8,c8]
   have e1:=fold1 _ ho;have e2:=whole1 _ ho;have hc:=hk false wi li;simp[fvS,zJ,h,hne,y5 h,c8];refine mr hc [0,1,2,3] (by simp[fvS,hv,fvA,zJ,c8]) ?_;simp[fvS];exact zS (i+1) h (by omega) (mw [0,1,2,3,4] 0 (by rfl) (by simp[fvS,hv,zJ,e1,e2,c8,hw]))
 .have hie:i=e.kids.length:=by omega
  subst hie;rw[jAu];simp[fvS,zJ];exact mv [0,1,2,3] 0 (by rfl) (by simp[hv])
theorem zOE(D D':wE)(u:Slt)(hD:D.drop 8=.sl 1 (j4 u)::D')(hv:∀rf g,vwL rf g D=D)(hn:jO D=D)(e:Exp)(ih:∀k∈e.kids,zPX D u.id k):zPX D u.id e:=by
 intro f w l;rw[zMR,zSs];refine zI func58 rfl qEq (rs:=[]) (by kernel_rfl) ?_;unfold zVI;rw[<-Bool.or_assoc,show (fvS D w l).length=4 from rfl];have hL:=zYU D D' u hD hv hn e ih f;have hl8:1<=D.length-8:=by rw[<-jCf,hD];simp
 by_cases c1:e.k=2
 .by_cases c2:e.ref=u.id
  .have key:(decide (e.k=2)&&decide (e.ref=u.id)&&!f) = !f:=by simp[c1,c2]
   rw[key];have hL':=hL (w||!f) l;generalize rY 4 (.tup []) (fvS D (w||!f||hU u.id (decide (e.k=8)) e.kids) ((zA4 u.id (decide (e.k=8)) e.n e.kids).foldl adI l))=Q at hL' ⊢;cases w
   .cases f
    all_goals
     simp[fvA,fvS,zJ,c1,c2,hD,j4,eQ];refine⟨_,_,kf [0,1,2,3,4] 0 (by rfl) ?_ ?_,hL'⟩
     .simp[fvS,hv,zJ,c1,c2]
     .simp[hv]
   .simp[fvA,fvS,zJ,c1,c2,hD,j4,eQ];refine⟨_,_,kf [0,1,2,3,4] 0 (by rfl) ?_ ?_,hL'⟩
    .simp[fvS,hv,zJ,c1,c2]
    .simp[hv]
  .have key:(decide (e.k=2)&&decide (e.ref=u.id)&&!f)=false:=by simp[c2]
   rw[key,Bool.or_false];have hL':=hL w l;generalize rY 4 (.tup []) (fvS D (w||hU u.id (decide (e.k=8)) e.kids) ((zA4 u.id (decide (e.k=8)) e.n e.kids).foldl adI l))=Q at hL' ⊢;simp[fvA,fvS,zJ,c1,c2,hD,j4,eQ];refine⟨_,_,kf [0,1,2,3,4] 0 (by rfl) ?_ ?_,hL'⟩
   .simp[fvS,hv,zJ,c1]
   .simp[hv]
 .have key:(decide (e.k=2)&&decide (e.ref=u.id)&&!f)=false:=by simp[c1]
  rw[key,Bool.or_false];have hL':=hL w l;generalize rY 4 (.tup []) (fvS D (w||hU u.id (decide (e.k=8)) e.kids) ((zA4 u.id (decide (e.k=8)) e.n e.kids).foldl adI l))=Q at hL' ⊢;simp[fvA,fvS,zJ,c1,hD];refine⟨_,_,kf [0,1,2,3,4] 0 (by rfl) ?_ ?_,hL'⟩
  .simp[fvS,hv,zJ]
  .simp[hv]
def zRP:Nat->Option wD:=fun|7=>k_ [0,0,2,2001,0,0,1001,0,4,0] | 10=>k_ [0,0,0,2,2,0,2001,0,0,0,0,0,0,1001,0,4,0] | 13=>k_ [0,0,0,2,2,0,2001,0,0,0,0,0,0,1001,0,4,0] | 17=>k_ [0,0,2001,2001,0,0,0,0,0,0,1001,0,4,0]|_=>none
theorem vA(k:Int):my 64 [int k] [] (.agg (zL (idR k))) []:=by
 refine mq [] [.cell 2 3 true] func64 (by kernel_rfl) ?_
 (conv in kq _ _=>cbv)
 simp;exact zA 0 (by simp[zL,idR])
def gB(l:wB)(m:Gm):wE:=[.sl l.length (yC l),int m.at_,int m.next]
def gS(l:wB)(m:Gm):St:=[.box (gB l m)]
def Gm.Ok(m:Gm)(c:Int):Prop:=0<=m.at_/\m.at_+c<=1000000/\0<=m.next/\m.next+c<=1000000
def Gst(m m':Gm)(c:Int):Prop:=m.at_<=m'.at_/\m'.at_<=m.at_+c/\m.next<=m'.next/\m'.next<=m.next+c
variable{c:Int}
theorem Gst.refl(m:Gm)(h:0<=c):Gst m m c:=by unfold Gst;omega
variable{b a:Gm}{d:Int}
theorem Gst.trans{m:Gm}{e:Int}(h1:Gst a b c)(h2:Gst b m d)(h:c+d<=e):Gst a m e:=by unfold Gst at *;omega
theorem Gst.mono(h1:Gst a b c)(h:c<=d):Gst a b d:=by unfold Gst at *;omega
theorem Gm.Ok.adv{e:Int}(h:a.Ok e)(h1:Gst a b c)(h2:c+d<=e):b.Ok d:=by unfold Gst Gm.Ok at *;omega
theorem Gm.Ok.mono(h:a.Ok c)(h1:d<=c):a.Ok d:=by unfold Gm.Ok at *;omega
theorem qR(m:Gm):Gst m m.tick 1:=by simp only[Gst,Gm.tick];omega
theorem fQ(m:Gm)(k n:Int)(r:Id)(ks:wG):Gst m (bD m k n r ks).2 1:=by simp only[Gst,bD];omega
theorem zHL(m:Gm)(k:Nat)(d s:Id):Gst m (zFR m k d s).2 2:=(fQ m _ _ _ _).trans (fQ _ _ _ _ _) (by omega)
theorem zJ2(l:wB)(t:Int)(m:Gm):Gst m (u4 l t m).2 2:=by
 unfold u4;split
 .exact(qR m).trans (fQ _ _ _ _ _) (by omega)
 .exact(qR m).trans (fQ _ _ _ _ _) (by omega)
theorem zG3(l:wB)(d:Dfn)(s:Id)(t:Int)(m:Gm):Gst m (sQ l d s t m).2 3:=by
 unfold sQ;split
 .exact(qR m).trans (zHL _ _ _ _) (by omega)
 .exact(qR m).trans (zJ2 _ _ _) (by omega)
def gC:Nat->Int
 | 0=>3
 |n+1=>2*gC n+5
theorem zHK:∀n,3<=gC n
 | 0=>by simp[gC]
 |n+1=>by have:=zHK n;simp only[gC];omega
variable{f:Gm->Exp×Gm}
theorem zN3(hf:∀m,Gst m (f m).2 c)(m:Gm)(n:Int):Gst m (zOF f m n).2 (2*c+1) :=
 (((hf m).trans (hf _) (jAd _)).trans (fQ _ _ _ _ _) (by omega))
theorem zYV{g:Gm->Exp×Gm}{b:Int}(hf:∀m,Gst m (f m).2 b)(hg:∀m,Gst m (g m).2 c)(m:Gm):Gst m (gIf f g m).2 (b+2*c+1) :=
 ((((hf m).trans (hg _) (jAd _)).trans (hg _) (jAd _)).trans (fQ _ _ _ _ _) (by omega))
theorem fR(l:wB)(d:Dfn)(s:Id):∀(n:Nat) (t:Int) (m:Gm),Gst m (cJ l d s n t m).2 (gC n)
 | 0,t,m=>zG3 l d s t m
 |n+1,t,m=>by
  have ih:=fR l d s n t;have h3:=zHK n;unfold cJ;simp only[gC];split
  .exact(qR m).trans (zHL _ _ _ _) (by omega)
  .split
   .exact(qR m).trans (zN3 ih _ _) (by omega)
   .split
    .exact(qR m).trans (zN3 ih _ _) (by omega)
    .split
     .exact(qR m).trans (zYV (zG3 l d s 1) ih _) (by omega)
     .exact(qR m).trans (zJ2 _ _ _) (by omega)
section
variable{l:wB}
theorem eF(m:Gm)(n:Int)(hn:0<n)(h:m.Ok 1):my 65 [.ptr 0 0,int n] (gS l m) (int (gN l m n)) (gS l m.tick):=by
 obtain⟨h1,h2,h3,h4⟩:=h;refine mq [] [.slot 4] func65 (by kernel_rfl) ?_
 (conv in kq _ _=>cbv)
 have w1:=z8 (m.at_+1) (by omega);have w2:=z8 m.at_ (by omega);simp[gS,gB,w1,w2];refine qA (dK l m.at_ n hn) (by simp) (by simp) ?_;simp;exact mv [0] 0 (by rfl) (by simp[Gm.tick,gN])
theorem dO(hl:∀x∈l,w64 x=x)(m:Gm){n:Int}(hn:0<n):0<=gN l m n/\gN l m n<n:=jT hl hn
theorem cV(m:Gm)(k n:Int)(r:Id)(ks:wG)(h:m.Ok 1):my 66 [.ptr 0 0,int k,int n,.agg (zL r),.sl ks.length (qQ ks)] (gS l m) (.agg (zJ (bD m k n r ks).1)) (gS l (bD m k n r ks).2):=by
 obtain⟨h1,h2,h3,h4⟩:=h;refine mq [] [.cell 10 15 true] func66 (by kernel_rfl) ?_
 (conv in kq _ _=>cbv)
 have w1:=z8 (m.next+1) (by omega);have w2:=z8 m.next (by omega);simp[gS,gB,w1,w2,zL];refine qA (vA m.next) (by simp) (by simp[zL]) ?_;simp[zL];exact mv [0] 0 (by rfl) (by simp[bD,zJ,Typ.zero,Typ.k,Typ.id,Typ.kids,Id.zero])
variable{ss:List Slt}{t:Int}
theorem zLD{x:Int}(h:∀i,i<ss.length->∀s,ss[tY ss.length x i]?=some s->¬(s.typ.k=t/\4<x)):zAe ss t x=none:=by
 unfold zAe;split
 .rename_i h4;rw[Option.map_eq_none_iff,jCv];intro i hi;rw[jC]at hi;split
  .rename_i s hs;intro hh;exact h i hi s hs ⟨by simpa using hh,h4⟩
  .simp
 .rfl
theorem zOD{x:Int}{i:Nat}(hi:i<ss.length){s:Slt}(hs:ss[tY ss.length x i]?=some s)(h1:s.typ.k=t)(h4:4<x)(hb:∀j,j<i->∀u,ss[tY ss.length x j]?=some u->¬u.typ.k=t):zAe ss t x=some (tY ss.length x i):=by
 unfold zAe;rw[if_pos h4];refine jAh.2 ⟨i,?_,rfl⟩;rw[List.find?_eq_some_iff_getElem];refine⟨by simp[hs,h1],i,by simpa using hi,by simp,fun j hj=>?_⟩;simp only[List.getElem_range];cases hu:ss[tY ss.length x j]? with
 |none=>rfl
 |some u=>simp[hb j hj u hu]
theorem qHw(ht:t=0\/t=1):(tK t).k=t:=by rcases ht with rfl|rfl<;>rfl
theorem zTe(ht:t=0\/t=1):zB (tK t)=[int t,int 0,int 0,int 0,.sl 0 []]:=by rcases ht with rfl|rfl<;>rfl
theorem cR:zJ Exp.zero=[int 0,int 0,int 0,int 0,int 0,int 0,int 0,int 0,int 0,int 0,int 0,int 0,.sl 0 [],.sl 0 [],.sl 0 []]:=rfl
def qD5(ss:List Slt)(t:Int)(X:Int)(i:Nat):Prop:=i<=ss.length/\∀j,j<i->∀u,ss[tY ss.length X j]?=some u->¬(u.typ.k=t/\4<X)
def zHy(l:wB)(d:Dfn)(s:Id)(n:Nat):Prop:=∀(m:Gm) (t:Int),t=0\/t=1->m.Ok (gC n) ->
 my 68 [.ptr 0 0,.agg (zB (tK t)),.agg (zK d),.agg (zL s),int n] (gS l m) (.agg (zJ (cJ l d s n t m).1)) (gS l (cJ l d s n t m).2)
theorem zGR(hl:∀x∈l,w64 x=x)(d:Dfn)(s:Id)(hfew:d.slots.length<=6)(N:Nat)(hN:N<=2)(ih:∀n,N=n+1->zHy l d s n/\zHy l d s 0):zHy l d s N:=by
 intro m t ht hok;have hc3:=zHK N;have hok':=hok;obtain⟨x0,x1⟩:=dO hl m (n:=12) (by omega);obtain⟨X,hX⟩:∃X:Nat,gN l m 12=X:=⟨(gN l m 12).toNat,by omega⟩;have htk:=qHw ht;have htd:=zTe ht;have hg:∀q,q=cJ l d s N t m->my 68 [.ptr 0 0,.agg (zB (tK t)),.agg (zK d),.agg (zL s),int N] (gS l m) (.agg (zJ q.1)) (gS l q.2):=by
  intro q hq;refine mn zRP [] [.cell 10 15 true] func68 (by kernel_rfl) ?_
  (conv in zY _ _ _ _=>cbv)
  simp[gS,gB,htd];refine mr (eF (l:=l) m 12 (by omega) (hok'.mono (by omega))) [0] (by simp[gS,gB]) ?_;simp[gS,gB];rw[hX];rw[hX]at x1;refine qO (S:=Nat) (fun i=>[(0,.ptr 0 0),(4,int N),(6,.ptr 1 0),(7,.ptr 2 0),(8,.ptr 3 0),(10,.ptr 4 0),(11,int X),(12,int i)])
   (fun i=>gS l m.tick++[.box (zB (tK t)),.box (zK d),.box (zL s),.box (zJ Exp.zero)]) (qD5 d.slots t X) (fun i=>d.slots.length-i) 0 ⟨by omega,fun j hj=>by omega⟩
   (mw [0,1,2,3,4] 0 (by rfl) (by simp[gS,gB,htd,cR,Gm.tick])) ?_
  rintro i ⟨hi,hno⟩;by_cases hin:i<d.slots.length/\(3:Int)<X
  .obtain⟨h1,h3⟩:=hin;have hw:=z8 ((i:Int)+X) (by omega);have hk:tY d.slots.length X i<d.slots.length:=Nat.mod_lt _ (by omega);have hne:d.slots≠[]:=fun e=>by rw[e]at h1;simp at h1
   have hmod:((i:Int)+X).tmod d.slots.length=((tY d.slots.length X i:Nat):Int):=by rw[jD1 (by omega)];simp[tY]
   have hget:d.slots[tY d.slots.length X i]?=some d.slots[tY d.slots.length X i]:=jA1 hk;have hnext:¬(d.slots[tY d.slots.length X i].typ.k=t/\(4:Int)<X)->∀j,j<i+1->∀u,d.slots[tY d.slots.length X j]?=some u->¬(u.typ.k=t/\4<(X:Int)):=fun hh j hj u hu=>by
    by_cases e:j=i
    .subst e;rw[hget]at hu;cases hu;exact hh
    .exact hno j (by omega) u hu
   have hhit:d.slots[tY d.slots.length X i].typ.k=t->(4:Int)<X->zAe d.slots t (gN l m 12)=some (tY d.slots.length X i):=fun a b=>by rw[hX];exact zOD h1 hget a b fun j hj u hu e=>hno j hj u hu ⟨e,b⟩
   generalize tY d.slots.length X i=k at hk hmod hget hnext hhit;by_cases h5:d.slots[k].typ.k=t
   .by_cases h4:(4:Int)<X
    .have hq2:q=zFR m.tick k d.id s:=by cases N<;>rw[hq,cJ]<;>simp only[sQ,hhit h5 h4]
     have g1:=cV (l:=l) m.tick 2 0 s [] (hok'.adv (qR m) (by omega));have g2:=cV (l:=l) (bD m.tick 2 0 s []).2 8 k d.id [(bD m.tick 2 0 s []).1] (hok'.adv ((qR m).trans (fQ _ _ _ _ _) (jAd _)) (by omega));simp[gS,gB,htd,zK,h1,h3,h4,h5,hw,hmod,hk,hne,qW hk,j4];intro _;refine aK g1 [0] (by decide) (by simp[gS,gB]) (by simp) (by decide) (by simp) (by simp[gS]) ?_;simp[gS,gB];refine bV g2 [0] (by decide) (by simp[gS,gB]) (by simp[zO,zL]) ?_;simp[gS,gB];rw[hq2];exact mv [0] 0 (by rfl) (by simp[zFR,zJ])
    .simp[gS,gB,htd,zK,h1,h3,h4,h5,hw,hmod,hk,hne,qW hk,j4];exact fun _=>zS (i+1) ⟨h1,hnext (fun hh=>h4 hh.2)⟩ (by omega) (mw [0,1,2,3,4] 0 (by rfl) (by simp[gS,gB,htd,cR,zK,qF h1 (show d.slots.length<=maxLen by simp[maxLen];omega)]))
   .simp[gS,gB,htd,zK,h1,h3,h5,hw,hmod,hk,hne,qW hk,j4];exact fun _=>zS (i+1) ⟨h1,hnext (fun hh=>h5 hh.1)⟩ (by omega) (mw [0,1,2,3,4] 0 (by rfl) (by simp[gS,gB,htd,cR,zK,qF h1 (show d.slots.length<=maxLen by simp[maxLen];omega)]))
  .have hnone:zAe d.slots t (gN l m 12)=none:=by
    rw[hX];refine zLD fun j hj u hu=>?_
    by_cases h3:(3:Int)<X
    .exact hno j (by omega) u hu
    .omega
   have hexit:(¬i<d.slots.length/\(0:Int)<=X)\/(i<d.slots.length/\¬(3:Int)<X):=by omega
   cases N with
   |zero =>
    have hq3:q=u4 l t m.tick:=by rw[hq,cJ];simp only[sQ,hnone]
    rcases ht with rfl|rfl
    .have hq2:q=bD m.tick.tick 0 (gN l m.tick 4-1) Id.zero []:=by rw[hq3,u4];simp
     have n1:=eF (l:=l) m.tick 4 (by omega) (hok'.adv (qR m) (by omega));have g:=cV (l:=l) m.tick.tick 0 (gN l m.tick 4-1) Id.zero [] (hok'.adv ((qR m).trans (qR _) (jAd _)) (by omega));obtain⟨v0,v1⟩:=dO hl m.tick (n:=4) (by omega);have hv:=z8 (gN l m.tick 4-1) (by omega);have hcs:((X:Int)<2/\(X:Int)<3/\¬(X:Int)=3)\/(¬(X:Int)<2/\(X:Int)<3/\¬(X:Int)=3)\/(¬(X:Int)<2/\¬(X:Int)<3/\(X:Int)=3)\/(¬(X:Int)<2/\¬(X:Int)<3/\¬(X:Int)=3):=by omega
     rcases hcs with ⟨hB,hX3,hX4⟩|⟨hB,hX3,hX4⟩|⟨hB,hX3,hX4⟩|⟨hB,hX3,hX4⟩<;>rcases hexit with ⟨hE,hE2⟩|⟨hE,hE2⟩ <;>
      (simp[gS,gB,htd,zK,hE,hE2,hB,hX3,hX4]
       intro _;refine mr n1 [0] (by simp[gS,gB]) ?_;simp[gS,gB,hv];refine mr g [0] (by simp[gS,gB,zL,Id.zero]) ?_;simp[gS,gB];rw[hq2];exact mv [0] 0 (by rfl) (by simp[bD,zJ]))
    .have hq2:q=bD m.tick.tick 1 (gN l m.tick 2) Id.zero []:=by rw[hq3,u4];simp
     have n1:=eF (l:=l) m.tick 2 (by omega) (hok'.adv (qR m) (by omega));have g:=cV (l:=l) m.tick.tick 1 (gN l m.tick 2) Id.zero [] (hok'.adv ((qR m).trans (qR _) (jAd _)) (by omega));obtain⟨v0,v1⟩:=dO hl m.tick (n:=2) (by omega);have hcs:((X:Int)<2/\(X:Int)<3/\¬(X:Int)=3)\/(¬(X:Int)<2/\(X:Int)<3/\¬(X:Int)=3)\/(¬(X:Int)<2/\¬(X:Int)<3/\(X:Int)=3)\/(¬(X:Int)<2/\¬(X:Int)<3/\¬(X:Int)=3):=by omega
     rcases hcs with ⟨hB,hX3,hX4⟩|⟨hB,hX3,hX4⟩|⟨hB,hX3,hX4⟩|⟨hB,hX3,hX4⟩<;>rcases hexit with ⟨hE,hE2⟩|⟨hE,hE2⟩ <;>
      (simp[gS,gB,htd,zK,hE,hE2,hB,hX3,hX4]
       intro _;refine mr n1 [0] (by simp[gS,gB]) ?_;simp[gS,gB];refine mr g [0] (by simp[gS,gB,zL,Id.zero]) ?_;simp[gS,gB];rw[hq2];exact mv [0] 0 (by rfl) (by simp[bD,zJ]))
   |succ n =>
    obtain⟨ih,ih0⟩:=ih n rfl;have hc3:=zHK n;have hok':m.Ok (2*gC n+5):=hok;have hwn:=z8 (n:Int) (by omega);have h0n:(0:Int)<(n:Int)+1:=by omega
    obtain⟨a,ha⟩:∃a,a=cJ l d s n t m.tick:=⟨_,rfl⟩;have c1:=ih m.tick t ht (hok'.adv (qR m) (by omega));have sa:=fR l d s n t m.tick;rw[<-ha]at c1 sa;obtain⟨b,hb⟩:∃b,b=cJ l d s n t a.2:=⟨_,rfl⟩;have c2:=ih a.2 t ht (hok'.adv ((qR m).trans sa (jAd _)) (by omega));have sb:=fR l d s n t a.2;rw[<-hb]at c2 sb;have okb:b.2.Ok 1:=hok'.adv (((qR m).trans sa (jAd _)).trans sb (jAd _)) (by omega);by_cases hA:(X:Int)<3/\t=0
    .obtain⟨hA1,hA2⟩:=hA;subst hA2;have hq2:q=bD b.2 4 X Id.zero [a.1,b.1]:=by rw[hq,cJ,hnone];simp only[hX];rw[if_pos ⟨hA1,trivial⟩,zOF,<-ha,<-hb]
     have g:=cV (l:=l) b.2 4 X Id.zero [a.1,b.1] okb;rcases hexit with ⟨hE,hE2⟩|⟨hE,hE2⟩
     all_goals
      simp[gS,gB,htd,zK,hE,hE2,h0n,hwn,hA1];intro _;refine mr c1 [0] (by simp[gS,gB,htd,zK,zL]) ?_;simp[gS,gB];obtain rfl|rfl|rfl:X=0\/X=1\/X=2:=by omega
      all_goals
       simp[gS,gB,htd,zK,h0n,hwn];refine aK c2 [0] (by decide) (by simp[gS,gB]) (by simp[htd,zK,zL]) (by decide) (by simp) (by simp[gS]) ?_;simp[gS,gB];refine bV g [0] (by decide) (by simp[gS,gB]) (by simp[zO,zL,Id.zero]) ?_;simp[gS,gB];rw[hq2];exact mv [0] 0 (by rfl) (by simp[bD,zJ])
    .by_cases hB:(X:Int)<2
     .have ht1:t=1:=by omega
      subst ht1;have hX3:(X:Int)<3:=by omega
      have hq2:q=bD b.2 4 (7+X) Id.zero [a.1,b.1]:=by rw[hq,cJ,hnone];simp only[hX];rw[if_neg (by omega),if_pos hB,zOF,<-ha,<-hb]
      have g:=cV (l:=l) b.2 4 (7+X) Id.zero [a.1,b.1] okb;rcases hexit with ⟨hE,hE2⟩|⟨hE,hE2⟩
      all_goals
       simp[gS,gB,htd,zK,hE,hE2,h0n,hwn,hB,hX3];intro _;refine mr c1 [0] (by simp[gS,gB,htd,zK,zL]) ?_;simp[gS,gB];obtain rfl|rfl:X=0\/X=1:=by omega
       all_goals
        simp[gS,gB,htd,zK,h0n,hwn];refine aK c2 [0] (by decide) (by simp[gS,gB]) (by simp[htd,zK,zL]) (by decide) (by simp) (by simp[gS]) ?_;simp[gS,gB];refine bV g [0] (by decide) (by simp[gS,gB]) (by simp[zO,zL,Id.zero]) ?_;simp[gS,gB];rw[hq2];exact mv [0] 0 (by rfl) (by simp[bD,zJ])
     .by_cases hX4:(X:Int)=3
      .have hX3:¬(X:Int)<3:=by omega
       clear c1 c2 sa sb okb;clear hb;clear b;clear ha;clear a;have c0:=ih0 m.tick 1 (.inr rfl) (hok'.adv (qR m) (by simp only[gC];omega));have s0:=fR l d s 0 1 m.tick;obtain⟨c,hc⟩:∃c,c=cJ l d s 0 1 m.tick:=⟨_,rfl⟩;rw[<-hc]at c0 s0;have d1:=ih c.2 t ht (hok'.adv ((qR m).trans s0 (jAd _)) (by simp only[gC];omega));have s1:=fR l d s n t c.2;obtain⟨a,ha⟩:∃a,a=cJ l d s n t c.2:=⟨_,rfl⟩;rw[<-ha]at d1 s1;have d2:=ih a.2 t ht (hok'.adv (((qR m).trans s0 (jAd _)).trans s1 (jAd _)) (by simp only[gC];omega));have s2:=fR l d s n t a.2;obtain⟨b,hb⟩:∃b,b=cJ l d s n t a.2:=⟨_,rfl⟩;rw[<-hb]at d2 s2;have g:=cV (l:=l) b.2 5 0 Id.zero [c.1,a.1,b.1] (hok'.adv ((((qR m).trans s0 (jAd _)).trans s1 (jAd _)).trans s2 (jAd _)) (by simp only[gC];omega));have hq2:q=bD b.2 5 0 Id.zero [c.1,a.1,b.1]:=by have e0:sQ l d s 1 m.tick=c:=hc.symm;rw[hq,cJ,hnone];simp only[hX];rw[if_neg (by omega),if_neg (by omega),if_pos hX4,gIf];simp only[e0,<-ha,<-hb]
       rcases hexit with ⟨hE,hE2⟩|⟨hE,hE2⟩
       all_goals
        simp[gS,gB,htd,zK,hE,hE2,h0n,hwn,hB,hX3,hX4];intro _;refine mr c0 [0] (by simp[gS,gB,zB,jR,tK,zK,zL,Typ.k,Typ.id,Typ.kids]) ?_;simp[gS,gB,htd,zK,h0n,hwn];refine mr d1 [0] (by simp[gS,gB,htd,zK,zL]) ?_;simp[gS,gB,htd,zK,h0n,hwn];refine aK d2 [0] (by decide) (by simp[gS,gB]) (by simp[htd,zK,zL]) (by decide) (by simp) (by simp[gS]) ?_;simp[gS,gB];refine bV g [0] (by decide) (by simp[gS,gB]) (by simp[zO,zJ,zL,Id.zero]) ?_;simp[gS,gB];rw[hq2];exact mv [0] 0 (by rfl) (by simp[bD,zJ])
      .clear c1 c2 sa sb okb;clear hb;clear b;clear ha;clear a;have hq3:q=u4 l t m.tick:=by rw[hq,cJ,hnone];simp only[hX];rw[if_neg (by omega),if_neg (by omega),if_neg hX4]
       rcases ht with rfl|rfl
       .have hq2:q=bD m.tick.tick 0 (gN l m.tick 4-1) Id.zero []:=by rw[hq3,u4];simp
        have n1:=eF (l:=l) m.tick 4 (by omega) (hok'.adv (qR m) (by omega));have g:=cV (l:=l) m.tick.tick 0 (gN l m.tick 4-1) Id.zero [] (hok'.adv ((qR m).trans (qR _) (jAd _)) (by omega));obtain⟨v0,v1⟩:=dO hl m.tick (n:=4) (by omega);have hv:=z8 (gN l m.tick 4-1) (by omega);have hcs:(¬(X:Int)<2/\¬(X:Int)<3/\¬(X:Int)=3):=by omega
        rcases hcs with ⟨hB,hX3,hX4⟩<;>rcases hexit with ⟨hE,hE2⟩|⟨hE,hE2⟩ <;>
         (simp[gS,gB,htd,zK,hE,hE2,hB,hX3,hX4,h0n]
          intro _;refine mr n1 [0] (by simp[gS,gB]) ?_;simp[gS,gB,hv];refine mr g [0] (by simp[gS,gB,zL,Id.zero]) ?_;simp[gS,gB];rw[hq2];exact mv [0] 0 (by rfl) (by simp[bD,zJ]))
       .have hq2:q=bD m.tick.tick 1 (gN l m.tick 2) Id.zero []:=by rw[hq3,u4];simp
        have n1:=eF (l:=l) m.tick 2 (by omega) (hok'.adv (qR m) (by omega));have g:=cV (l:=l) m.tick.tick 1 (gN l m.tick 2) Id.zero [] (hok'.adv ((qR m).trans (qR _) (jAd _)) (by omega));obtain⟨v0,v1⟩:=dO hl m.tick (n:=2) (by omega);have hcs:(¬(X:Int)<2/\(X:Int)<3/\¬(X:Int)=3)\/(¬(X:Int)<2/\¬(X:Int)<3/\¬(X:Int)=3):=by omega
        rcases hcs with ⟨hB,hX3,hX4⟩|⟨hB,hX3,hX4⟩<;>rcases hexit with ⟨hE,hE2⟩|⟨hE,hE2⟩ <;>
         (simp[gS,gB,htd,zK,hE,hE2,hB,hX3,hX4,h0n]
          intro _;refine mr n1 [0] (by simp[gS,gB]) ?_;simp[gS,gB];refine mr g [0] (by simp[gS,gB,zL,Id.zero]) ?_;simp[gS,gB];rw[hq2];exact mv [0] 0 (by rfl) (by simp[bD,zJ]))
 exact hg _ rfl
theorem zB6(hl:∀x∈l,w64 x=x)(d:Dfn)(s:Id)(hfew:d.slots.length<=6):∀n:Nat,n<=2->zHy l d s n
 | 0,h=>zGR hl d s hfew 0 h (fun n e=>by omega)
 |n+1,h=>zGR hl d s hfew (n+1) h fun k e=>by
  have:k=n:=by omega
  subst this;exact⟨zB6 hl d s hfew k (by omega),zB6 hl d s hfew 0 (by omega)⟩
end
def qFG:Nat->Option wD:=fun|8=>some [(0,1),(1,0),(3,1),(4,0),(2,3),(5,0),(6,4),(7,0)]|_=>none
@[simp]theorem zLn:zF prog 154=true:=by kernel_rfl
mutual
theorem zOm:∀(v:Val) (k:Nat),(xZ v).bnd k=true
 | .mk a n l,k=>by simp only[xZ,A.bnd];exact zAl l k
theorem zAl:∀(l:wI) (k:Nat),dT k (zR l)=true
 |[],k=>by simp
 |v::l,k=>by have h:=zOm v k;rw[zIT]at h;simp only[A.bnd]at h;simp[h,zAl l k]
end
attribute [simp] zAl
def yL(l:List wI):wE:=l.map fun vs=>.sl vs.length (zR vs)
@[simp]theorem zLw(l:List wI):(yL l).length=l.length:=by simp[yL]
@[simp]theorem zY4:yL []=[]:=rfl
@[simp]theorem zWA(v:wI)(l:List wI):yL (v::l)=.sl v.length (zR v)::yL l:=rfl
@[simp]theorem zAa(a b:List wI):yL (a++b)=yL a++yL b:=by simp[yL]
theorem sH:∀(l:List wI),qV (yL l)
 |[]=>qV.nil
 |v::l=>qV.sl (eD v) (sH l)
@[simp]theorem zXm(l:List wI):jO (yL l)=yL l:=(sH l).1
@[simp]theorem qCg{rf g}(l:List wI):vwL rf g (yL l)=yL l:=(sH l).2 _ _
@[simp]theorem zLi:∀(l:List wI) (k:Nat),dT k (yL l)=true
 |[],k=>by simp
 |v::l,k=>by simp[zLi l k]
theorem zOw:my 155 [.nil] [] .nil []:=by
 refine mq [] [.slot 2] func155 (by kernel_rfl) ?_
 (conv in kq _ _=>cbv)
 simp;exact zA 0 (by simp)
theorem zQX(l:wI)(h:l≠[])(hb:l.length*40<=140737488355328)(hm:l.length<=maxLen):my 155 [.sl l.length (zR l)] [] (.row 0 l.length) [.row false 46 3 l.length (zR l)]:=by
 refine mq [] [.slot 2] func155 (by kernel_rfl) ?_
 (conv in kq _ _=>cbv)
 simp[h];refine⟨⟨hm,hb⟩,?_⟩;exact mv [0] 0 (by rfl) (by simp)
theorem zCJ(l:List wI):my 118 [.sl l.length (yL l)] [] (.clo 154 [] [.rptr [.sl l.length (yL l)]]) []:=by
 refine mq [] [.slot 2] func118 (by kernel_rfl) ?_
 (conv in kq _ _=>cbv)
 simp;exact zA 1 (by simp)
def oN(l:wI):A:=if l=[]then .nil else .sl l.length (zR l)
@[simp]theorem zTf:oN []=.nil:=rfl
theorem zHo{l:wI}(h:l≠[]):oN l=.sl l.length (zR l):=by simp[oN,h]
@[simp]theorem qDR(l:wI)(k:Nat):(oN l).bnd k=true:=by unfold oN;split<;>simp
@[simp]theorem zTO(l:wI):cellsOf (oN l)=some [oN l]:=by unfold oN;split<;>simp
@[simp]theorem qJY{rf g}(l:wI):vw rf g (oN l)=oN l:=by unfold oN;split<;>simp
@[simp]theorem qB1(l:wI):nrm0 (oN l)=.sl l.length (zR l):=by unfold oN;split<;>simp_all
def gL(acc:List wI)(last:wI):List wI:=acc.flatMap fun h=>last.map fun x=>h++[x]
def aQ(l:List wI):List wI:=l.foldl gL [[]]
@[simp]theorem zP2:aQ []=[[]]:=rfl
theorem zA7(l:List wI)(last:wI):aQ (l++[last])=gL (aQ l) last:=by simp[aQ]
theorem zGT:∀(l:List wI) (acc:List wI) (n:Nat),(∀t∈acc,t.length=n)->∀t∈l.foldl gL acc,t.length=n+l.length
 |[],acc,n,h,t,ht=>by simpa using h t ht
 |a::l,acc,n,h,t,ht=>by
  have:=zGT l (gL acc a) (n+1) (fun s hs=>by simp only[gL,List.mem_flatMap,jAg]at hs;obtain⟨u,hu,x,_,rfl⟩:=hs;simp[h u hu]) t ht
  simp only[jA9];omega
theorem zP1{l:List wI}{t:wI}(h:t∈aQ l):t.length=l.length:=by have:=zGT l [[]] 0 (by simp) t h;omega
theorem i9(acc:List wI)(last:wI):(gL acc last).length=acc.length*last.length:=by
 induction acc with
 |nil=>simp[gL]
 |cons a acc ih =>
  have e:gL (a::acc) last=last.map (fun x=>a++[x])++gL acc last:=by simp[gL]
  rw[e];simp[ih,jBu,jCn]
theorem zPG{acc:List wI}{last:wI}{j:Nat}(hi:i<acc.length)(hj:j<last.length):(gL acc last)[i*last.length+j]?=some (acc[i]++[last[j]]):=by
 induction acc generalizing i with
 |nil=>simp at hi
 |cons a acc ih =>
  have e:gL (a::acc) last=last.map (fun x=>a++[x])++gL acc last:=by simp[gL]
  rw[e];cases i with
  |zero=>rw[jAj (by simpa using hj)];simp[hj]
  |succ i =>
   have hi':i<acc.length:=by simpa using hi
   rw[jAy (by simp[jBu])];have:(i+1)*last.length+j-(last.map fun x=>a++[x]).length=i*last.length+j:=by simp[jBu];omega
   rw[this,ih hi'];rfl
theorem zN7:∀(n:Nat) (l:List wI),l.length=n->n<=1000000->zMX prog 154 [] [.rptr [.sl l.length (yL l)]] ((aQ l).map fun t=>[oN t]):=by
 intro n;induction n with
 |zero =>
  intro l hl _;have hl0:l=[]:=jCe hl;subst hl0;refine vC fun b m T hT hY=>?_
  simp only[zP2,jAi,jBq,jA9,jB9,zTf]at hT hY ⊢;have h0:=hT 0 (by simp);have h1:=hT 1 (by simp);refine mn qFG [] [] func154 (by kernel_rfl) ?_
  (conv in zY _ _ _ _=>cbv)
  simp[h0.1,aW h0.1];refine zBW h0 h1 (hY 0 (by simp)) (by simp) ?_;simp;exact zIn h1 (by simp)
 |succ n ih =>
  intro l hl hn;obtain⟨l',last,rfl⟩:∃l' last,l=l'++[last]:=⟨l.dropLast,l.getLast (by intro h;simp[h]at hl),by rw[List.dropLast_concat_getLast]⟩;have hl':l'.length=n:=by simpa using hl
  refine vC fun b m T hT hY=>?_
  have hXl:((aQ (l'++[last])).map fun t=>[oN t]).length=(aQ l').length*last.length:=by rw[jAb,zA7,i9]
  rw[hXl]at hT ⊢;have h0:=hT 0 (jB4 _);refine mn qFG [] [] func154 (by kernel_rfl) ?_
  (conv in zY _ _ _ _=>cbv)
  have hw:IntKind.i64.wrap (l'.length:Int)=l'.length:=zTv (by simp[maxLen];omega);have hne:¬((l'.length:Int)+1=0):=by omega
  simp[h0.1,aW h0.1,hw,hne];intro hmx;refine⟨by omega,?_⟩;refine mu (zCJ l') (by simp) ?_;simp;have hCl:∀j,j<=(aQ l').length*last.length->Cl (m+1) (T j++[.box [yv b]]):=fun j hj=>(hT j hj).app rfl (by simp)
  have hbd:∀i,i<=(aQ l').length->i*last.length<=(aQ l').length*last.length:=fun i hi=>jB8 _ hi
  refine⟨[(1,.rptr [.sl (l'.length+1) (yL l'++[.sl last.length (zR last)])]),(2,.ptr m 0),(16,.clo 154 [] [.rptr [.sl l'.length (yL l')]])],m+1,(aQ l').map (fun t=>[oN t]),fun j=>T (j*last.length)++[.box [yv b]],154,[],
   [.rptr [.sl l'.length (yL l')]],by simp,zLn,ih l' hl' (by omega),?_,by omega,?_,by simp,by simp,?_,?_⟩
  .simp only[Nat.zero_mul];exact zCd (τ:=[]) (by simp) (by simp[h0.1]) (by simp) (by simp[h0.1]) (by rw[(hCl 0 (jB4 _)).1];exact(hCl 0 (jB4 _)).2)
  .intro i hi;exact hCl _ (hbd i (by simpa using hi))
  .intro i hi b' M r r';simp only[jAb]at hi;have hd:(yL l'++[A.sl last.length (zR last)]).drop l'.length=[A.sl last.length (zR last)]:=by rw[<-zLw l'];simp
   simp[hw,hd];intro _;refine⟨by omega,?_⟩;intro hlm;have hCl2:∀j r,i*last.length+j<=(aQ l').length*last.length->Cl (m+2) (T (i*last.length+j)++[.box [yv b],AObj.lp b' r M
    [(1,A.rptr [A.sl (l'.length+1) (yL l'++[A.sl last.length (zR last)])]),(2,A.ptr m 0),
     (16,A.clo 154 [] [A.rptr [A.sl l'.length (yL l')]])]]):=fun j r hj=>(hT _ hj).app rfl (by simp)
   have hij:∀j,j<=last.length->i*last.length+j<=(aQ l').length*last.length:=fun j hj=>by have:=jB8 last.length (Nat.succ_le_of_lt hi);rw[jBu]at this;omega
   have hTi:(T (i*last.length)).length=m:=(hT _ (hij 0 (jB4 _))).1;refine qO (S:=Nat) (fun j=>[(2,.ptr m 0),(3,oN (aQ l')[i]),(23,.sl last.length (zR last)),(24,int last.length),(25,int j)]) (fun j=>T (i*last.length+j)++[.box [yv b],AObj.lp b' r' M
    [(1,A.rptr [A.sl (l'.length+1) (yL l'++[A.sl last.length (zR last)])]),(2,A.ptr m 0),
     (16,A.clo 154 [] [A.rptr [A.sl l'.length (yL l')]])]]) (fun j=>j<=last.length) (fun j=>last.length-j) 0 (by simp)
    (zCd (τ:=[]) (by simp) (by simp[hTi]) (by simp) (by simp[hTi]) (by rw[(hCl2 0 r' (hij 0 (jB4 _))).1];exact(hCl2 0 r' (hij 0 (jB4 _))).2)) ?_
   intro j hj;simp;refine jM (fun h=>?_) (fun h=>?_)<;>simp at h
   .have hTj:=hT _ (hij j hj);simp[h,qT h,hTj.1,aW hTj.1,aL hTj.1,cM hTj.1,zBF hTj.1,zAU];have hgl:i*last.length+j<(gL (aQ l') last).length:=by rw[i9];have:=hij (j+1) h;omega
    have hge:(gL (aQ l') last)[i*last.length+j]=(aQ l')[i]++[last[j]]:=by
     have:=zPG hi h;rw[jA1 hgl]at this
     simpa using this
    have hTj1:=hT (i*last.length+(j+1)) (hij (j+1) h);have hyj:iO prog b [.sl ((aQ l')[i].length+1) (zR ((aQ l')[i]++[last[j]]))] (T (i*last.length+j)) fun o τ=>o=.ret (.lit (.bool true))/\τ = T (i*last.length+(j+1)):=by
     have:=hY (i*last.length+j) (by simpa[zA7]using hgl);simp only[zA7,jAt,hge]at this;rw[zHo (by simp)]at this
     simpa[jBk]using this
    have hlen:(aQ l')[i].length=n:=by rw[zP1 (jA0 hi),hl']
    by_cases hh:(aQ l')[i]=[]
    .refine zH9 zOw (by simp[hh]) ?_;simp[hTj.1,aW hTj.1,aL hTj.1,cM hTj.1,zBF hTj.1];refine⟨by simp[maxLen],?_⟩;simp only[hh,jB9,jB1,jBl,iC,zEc]at hyj;refine exY (k:=3) rfl hTj hTj1 (by simp) hyj ?_;simp;refine zS (j+1) h (by omega) (zCd (τ:=[.box (zC last[j]),.row true 46 3 1 (zC last[j])]) (by simp[zC]) (by simp[hTj1.1]) (by simp[hh,qF h hlm]) (by simp[hTj1.1]) (by rw[(hCl2 (j+1) r' (hij (j+1) h)).1];exact(hCl2 (j+1) r' (hij (j+1) h)).2))
    .refine zH9 (zQX _ hh (by omega) (by simp[maxLen];omega)) (by simp[zHo hh]) ?_;simp[hTj.1,aW hTj.1,aL hTj.1,cM hTj.1,zBF hTj.1];refine⟨by simp[maxLen];omega,?_⟩;simp only[bS,iC,zEc]at hyj;refine exY (k:=3) rfl hTj hTj1 (by simp) hyj ?_;simp;refine zS (j+1) h (by omega) (zCd (τ:=[.box (zC last[j]),.row true 46 3 ((aQ l')[i].length+1) (zR (aQ l')[i]++zC last[j])]) (by simp[zC]) (by simp[hTj1.1]) (by simp[qF h hlm]) (by simp[hTj1.1]) (by rw[(hCl2 (j+1) r' (hij (j+1) h)).1];exact(hCl2 (j+1) r' (hij (j+1) h)).2))
   .have:j=last.length:=by omega
    subst this;simp;exact Wk.here (by rw[jBu])
  .simp;exact zIn (hT _ (jA _)) (by simp)
@[simp]theorem zQF:∀(X:List wI) (k:Nat),dT k (X.map oN)=true
 |[],k=>rfl
 |t::X,k=>by simp[zQF X k]
@[simp]theorem zVu{rf g}:∀(X:List wI),vwL rf g (X.map oN)=X.map oN
 |[]=>by simp
 |t::X=>by simp[zVu X]
def qN4(out R:List wF)(x:Id)(k:Nat):List wF:=out++(R.take k).map (x::·)
end Go.Proofs.YtdnelmeboihpkaaGreatDoor
