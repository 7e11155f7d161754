/- The maker's operations. -/
import Derived.Test.YtolkhapmieigcaaGreatDoorX12
set_option linter.unusedVariables false
set_option maxHeartbeats 8000000
set_option maxRecDepth 100000
set_option linter.unusedSimpArgs false
open Go.Proofs.Tryz
namespace Go.Proofs.YtolkhapmieigcaaGreatDoor
open Go.Abs
def qFJ:Nat->Option wE:=fun|5=>k_ [0,0,0,0,2,2,2002,0,0,0,0,0,1002,0,4,0] | 20=>k_ [0,0,2002,0,0,0,0,0,1002,0,4,0] | 23=>k_ [0,2002,0,0,0,0,0,1002,0,4,0]|_=>none
noncomputable def zEK:{k:K//zV prog f95 qFJ []=k}:=⟨_,by conv=>lhs;cbv⟩
theorem zGP:kx f95 qFJ zEK.1:=mz (by kernel_rfl)
variable{x:Operand}
@[simp]theorem qH5{d:wD}{n:Nat}{g:Bool}{env:Env}:dD 2002 (.ld d x n g) env=eX 2 (ev env x):=propext (zAo (by omega) (by omega))
@[simp]theorem qAj{d:wD}{l:List Operand}{env:Env}:dD 1002 (.call d x l) env=True:=rfl
@[simp]theorem zXf{c l o:Nat}:eX c (.ptr l o)=(c<=l):=rfl
abbrev opF:FuncId:=95
variable{env:wJ}{c depth:Int}{hs:wQ}{m:Mk}
theorem zBt{R:Nat}{Q:Nat->Prop}{len:Nat}(hk:eN hs R c depth Q len)(hx:Cx hs R m){c':Int}(hl:Lim m (2*c+c'))(hc:0<=c)(hc':0<=c')(he:EnvOk hs R m.temp env)(h1:0<env.length)(h2:env.length<=len)
 (t u:Typ){r r':Nat}(ht:TyOk hs r t)(hu:TyOk hs r' u)(hQ:Q r)(hQ':Q r') :
 ∃(a b:Exp) (m1 m2:Mk),my bG [.ptr 0 0,.agg (zF t),.sl env.length (z6 env),int depth] (mkS m) (.agg (zG a)) (mkS m1) /\
  my bG [.ptr 0 0,.agg (zF u),.sl env.length (z6 env),int depth] (mkS m1) (.agg (zG b)) (mkS m2) /\
  Adv m m2 (2*c)/\WT hs m.own env a t/\WT hs m.own env b u/\Seg m.temp m2.temp (tmps a++tmps b)/\a.num0/\b.num0/\Lim m2 c':=by
 obtain⟨a,m1,g1,g2,g3,g4,g5⟩:=hk m r t env hx (hl.mono (by omega)) ht hQ he h1 h2;have hl1:Lim m1 (c+c'):=Lim.adv (c:=c) (hl.mono (by omega)) g2;obtain⟨b,m2,k1,k2,k3,k4,k5⟩:=hk m1 r' u env (hx.adv g2) (hl1.mono (by omega)) hu hQ' (he.mono g2.temp1) h1 h2;rw[g2.own]at k3;exact⟨a,b,m1,m2,g1,k1,(g2.trans k2).mono (by omega),g3,k3,g4.append k4 g2.temp1 k2.temp1,g5,k5,Lim.adv hl1 k2⟩
variable{a b:Exp}
theorem tZ{t0 t1:Int}{k n:Int}(h:Seg t0 t1 (tmps a++tmps b))(h1:t0<=t1):Seg t0 (t1+1) (tmps (.mk ⟨0,0,t1⟩ k n Id.zero Typ.zero [a,b] [])):=by simp only[tmps,jJ,jAt];exact h.append (Seg.one _) h1 (by omega)
theorem oS{c k n:Int}(h1:a.num0)(h2:b.num0):(Exp.mk ⟨0,0,c⟩ k n Id.zero Typ.zero [a,b] []).num0:=i4 (by simp[h1,h2])
theorem zFT{c k n:Int}{r:Id}(h1:a.num0):(Exp.mk ⟨0,0,c⟩ k n r Typ.zero [a] []).num0:=i4 (by simp[h1])
theorem zJz{t0 t1:Int}{k n:Int}{r:Id}(h:Seg t0 t1 (tmps a))(h1:t0<=t1):Seg t0 (t1+1) (tmps (.mk ⟨0,0,t1⟩ k n r Typ.zero [a] [])):=by simp only[tmps,jJ,jAt];exact h.append (Seg.one _) h1 (by omega)
theorem zFF:my 83 [.agg (zF jT)] [] (.agg (zF (jX jT))) []:=zVi jT
theorem zZE{R:Nat}{len:Nat}(hc:0<=c)(hl2:Lim m (2*c+1))(x:Int)(hx0:0<=x)(hx1:x<=65536)
 (hk:eN hs R c (depth-1) (fun r=>r<=R) len)(hR:1<=R)(hx:Cx hs R m)(he:EnvOk hs R m.temp env)(h1:0<env.length)(h2:env.length<=len)(h3:env.length<=1000)(hd1 : -1000<=depth)(hd2:depth<=1000) :
 cP hs m.own opF m [.ptr 0 0,.agg (zF jT),.sl env.length (z6 env),int x,int depth] env jT (2*c+1):=by
 have e6:x.tmod 6=x % 6:=tmN hx0;have e5:x.tmod 5=x % 5:=tmN hx0;have wd:=qF (depth-1) (by omega);by_cases h6:x.tmod 6=5
 .obtain⟨a,m1,g1,k2,k3,k4,k5⟩:=hk m 1 (jX jT) env hx (hl2.mono (by omega)) (.list _ _ (.int _)) hR he h1 h2;obtain⟨l1,l2,l3,l4,l5,l6,l7,l8⟩:=Lim.adv (c:=c) (c':=1) (hl2.mono (by omega)) k2;refine⟨.mk ⟨0,0,m1.temp⟩ 4 11 Id.zero Typ.zero [a] [],{m1 with temp:=m1.temp+1,left:=m1.left-1},?_,(k2.trans (aD _)).mono (by omega),.len _ _ _ _ k3,zJz k4 k2.temp1,zFT k5⟩;refine zK func95 rfl zGP (rs:=[.cell 10 15 true]) (by kernel_rfl) ?_
  simp only[zEK]
  simp[mkS,mkB,zF,jT,h6];refine mu zFF (by simp[zF,jT]) ?_;simp[mkS,mkB,zF,wd];refine mr g1 [0,1] (by simp[mkS,mkB,zF,jX]) ?_;simp[mkS,mkB];refine mr (aO m1 4 11 [a] l3 (by omega) (by omega) l6) [0,1] (by simp[mkS,mkB,zL]) ?_;simp[mkS,mkB];exact mv [0,1] 0 (by rfl) (by simp[zG,zL])
 .obtain⟨a,b,m1,m2,g1,g2,k2,k3,k3',k4,k5,k6,hln⟩:=zBt (t:=jT) (u:=jT) (c':=1) hk hx hl2 hc (by omega) he h1 h2 (.int 0) (.int 0) (by omega) (by omega);obtain⟨l1,l2,l3,l4,l5,l6,l7,l8⟩:=hln;obtain⟨rest,hA⟩:∃rest,List.drop (x.tmod 5).toNat [A.lit (.int .i64 0),A.lit (.int .i64 1),A.lit (.int .i64 2),A.lit (.int .i64 3),A.lit (.int .i64 4)]=A.lit (.int .i64 (x.tmod 5))::rest:=by
   have:x.tmod 5=0\/x.tmod 5=1\/x.tmod 5=2\/x.tmod 5=3\/x.tmod 5=4:=by omega
   rcases this with e|e|e|e|e<;>rw[e]<;>exact⟨_,rfl⟩
  have a0:0<=x.tmod 5:=by omega
  have a1:(x.tmod 5).toNat<5:=by omega
  have a1':x.tmod 5<5:=by omega
  refine⟨.mk ⟨0,0,m2.temp⟩ 4 (x.tmod 5) Id.zero Typ.zero [a,b] [],{m2 with temp:=m2.temp+1,left:=m2.left-1},?_,k2.trans (aD _),.arith _ _ _ _ _ a0 (by omega) k3 k3',tZ k4 k2.temp1,oS k5 k6⟩;refine zK func95 rfl zGP (rs:=[.cell 10 15 true]) (by kernel_rfl) ?_
  simp only[zEK]
  simp[mkS,mkB,zF,jT,h6,wd];refine mr g1 [0,1] (by simp[mkS,mkB,zF]) ?_;simp[mkS,mkB,zF,hA,a0,a1,a1',wd];refine bZ g2 [0,1] (by decide) (by simp[mkS,mkB]) (by simp[zF]) (by decide) (by simp) (by simp[mkS]) ?_;simp[mkS,mkB];refine dQ (aO m2 4 (x.tmod 5) [a,b] l3 (by omega) (by omega) l6) [0,1] (by decide) (by simp[mkS,mkB]) (by simp[zL]) ?_;simp[mkS,mkB,zG,zL];exact mv [0,1] 0 (by rfl) (by simp[zG,zL])
theorem zV8{R:Nat}{len:Nat}(hc:0<=c)(hl2:Lim m (2*c+1))(x:Int)(hx0:0<=x)(hx1:x<=65536)
 (hk:eN hs R c (depth-1) (fun r=>r<=R) len)(hR:1<=R)(hx:Cx hs R m)(he:EnvOk hs R m.temp env)(h1:0<env.length)(h2:env.length<=len)(h3:env.length<=1000)(hd1 : -1000<=depth)(hd2:depth<=1000) :
 cP hs m.own opF m [.ptr 0 0,.agg (zF j9),.sl env.length (z6 env),int x,int depth] env j9 (2*c+1):=by
 have e6:x.tmod 6=x % 6:=tmN hx0;have d6:x.tdiv 6=x / 6:=tdN hx0;have wd:=qF (depth-1) (by omega);have w0:IntKind.i64.wrap 0=0:=IntWalk.i64_in _ (by omega);have w1:IntKind.i64.wrap 1=1:=IntWalk.i64_in _ (by omega);have:x.tmod 6=0\/x.tmod 6=1\/x.tmod 6=2\/x.tmod 6=3\/x.tmod 6=4\/x.tmod 6=5:=by omega
 rcases this with e|e|e|e|e|e
 .obtain⟨a,m1,g1,k2,k3,k4,k5⟩:=hk m 0 j9 env hx (hl2.mono (by omega)) (.bool _) (by omega) he h1 h2;obtain⟨l1,l2,l3,l4,l5,l6,l7,l8⟩:=Lim.adv (c:=c) (c':=1) (hl2.mono (by omega)) k2;refine⟨.mk ⟨0,0,m1.temp⟩ 4 9 Id.zero Typ.zero [a] [],{m1 with temp:=m1.temp+1,left:=m1.left-1},?_,(k2.trans (aD _)).mono (by omega),.not _ _ _ k3,zJz k4 k2.temp1,zFT k5⟩;refine zK func95 rfl zGP (rs:=[.cell 10 15 true]) (by kernel_rfl) ?_
  simp only[zEK]
  simp[mkS,mkB,zF,j9,e,wd];refine mr g1 [0,1] (by simp[mkS,mkB,zF]) ?_;simp[mkS,mkB];refine mr (aO m1 4 9 [a] l3 (by omega) (by omega) l6) [0,1] (by simp[mkS,mkB,zL]) ?_;simp[mkS,mkB];exact mv [0,1] 0 (by rfl) (by simp[zG,zL])
 .obtain⟨a,b,m1,m2,g1,g2,k2,k3,k3',k4,k5,k6,hln⟩:=zBt (t:=jT) (u:=jT) (c':=1) hk hx hl2 hc (by omega) he h1 h2 (.int 0) (.int 0) (by omega) (by omega);obtain⟨l1,l2,l3,l4,l5,l6,l7,l8⟩:=hln;refine⟨.mk ⟨0,0,m2.temp⟩ 4 5 Id.zero Typ.zero [a,b] [],{m2 with temp:=m2.temp+1,left:=m2.left-1},?_,k2.trans (aD _),.less _ _ _ _ k3 k3',tZ k4 k2.temp1,oS k5 k6⟩;refine zK func95 rfl zGP (rs:=[.cell 10 15 true]) (by kernel_rfl) ?_
  simp only[zEK]
  simp[mkS,mkB,zF,j9,e,wd];refine mr g1 [0,1] (by simp[mkS,mkB,zF]) ?_;simp[mkS,mkB,zF,wd];refine bZ g2 [0,1] (by decide) (by simp[mkS,mkB]) (by simp[zF]) (by decide) (by simp) (by simp[mkS]) ?_;simp[mkS,mkB];refine dQ (aO m2 4 5 [a,b] l3 (by omega) (by omega) l6) [0,1] (by decide) (by simp[mkS,mkB]) (by simp[zL]) ?_;simp[mkS,mkB,zG,zL];exact mv [0,1] 0 (by rfl) (by simp[zG,zL])
 .obtain⟨a,b,m1,m2,g1,g2,k2,k3,k3',k4,k5,k6,hln⟩:=zBt (t:=jT) (u:=jT) (c':=1) hk hx hl2 hc (by omega) he h1 h2 (.int 0) (.int 0) (by omega) (by omega);obtain⟨l1,l2,l3,l4,l5,l6,l7,l8⟩:=hln;refine⟨.mk ⟨0,0,m2.temp⟩ 4 6 Id.zero Typ.zero [a,b] [],{m2 with temp:=m2.temp+1,left:=m2.left-1},?_,k2.trans (aD _),.same _ _ _ _ jT k3 k3',tZ k4 k2.temp1,oS k5 k6⟩;refine zK func95 rfl zGP (rs:=[.cell 10 15 true]) (by kernel_rfl) ?_
  simp only[zEK]
  simp[mkS,mkB,zF,j9,e,wd];refine mr g1 [0,1] (by simp[mkS,mkB,zF]) ?_;simp[mkS,mkB,zF,wd];refine bZ g2 [0,1] (by decide) (by simp[mkS,mkB]) (by simp[zF]) (by decide) (by simp) (by simp[mkS]) ?_;simp[mkS,mkB];refine dQ (aO m2 4 6 [a,b] l3 (by omega) (by omega) l6) [0,1] (by decide) (by simp[mkS,mkB]) (by simp[zL]) ?_;simp[mkS,mkB,zG,zL];exact mv [0,1] 0 (by rfl) (by simp[zG,zL])
 .obtain⟨j,hj,e1⟩:∃j:Nat,j<env.length/\(x.tdiv 6).tmod (env.length:Int)=j:=by
   have q0:0<=x.tdiv 6:=by omega
   have q1:=jDf (x.tdiv 6) (b:=(env.length:Int)) (by omega);have q2:=jD8 (x.tdiv 6) (b:=(env.length:Int)) (by omega);exact⟨((x.tdiv 6) % env.length).toNat,by omega,by rw[tmN q0];omega⟩
  have hdr:=iD hj;have hdr4:List.drop (j*9+4) (z6 env)=(cQ env[j]++z6 (env.drop (j+1))).drop 4:=by rw[<-jAu,hdr]
  have hb4:j*9+4+5<=env.length*9:=by omega
  have hne:¬((env.length:Int)=0):=by omega
  have hnil:env≠[]:=fun e=>by rw[e]at h1;simp at h1
  have htu:=he.typs env[j] (jA0 hj);have w6:=qF (x.tdiv 6) (by omega);obtain⟨a,b,m1,m2,g1,g2,k2,k3,k3',k4,k5,k6,hln⟩:=zBt (t:=env[j].typ) (u:=env[j].typ) (c':=1) hk hx hl2 hc (by omega) he h1 h2 htu htu (by omega) (by omega);obtain⟨l1,l2,l3,l4,l5,l6,l7,l8⟩:=hln;refine⟨.mk ⟨0,0,m2.temp⟩ 4 6 Id.zero Typ.zero [a,b] [],{m2 with temp:=m2.temp+1,left:=m2.left-1},?_,k2.trans (aD _),.same _ _ _ _ env[j].typ k3 k3',tZ k4 k2.temp1,oS k5 k6⟩;refine zK func95 rfl zGP (rs:=[.cell 10 15 true]) (by kernel_rfl) ?_
  simp only[zEK]
  simp[mkS,mkB,zF,j9,e,wd,e1,hne,hnil,hj,hdr4,hb4,cQ,w6];intro _;refine mr g1 [0,1] (by simp[mkS,mkB,zF]) ?_;simp[mkS,mkB,zF,wd];refine bZ g2 [0,1] (by decide) (by simp[mkS,mkB]) (by simp[zF]) (by decide) (by simp) (by simp[mkS]) ?_;simp[mkS,mkB];refine dQ (aO m2 4 6 [a,b] l3 (by omega) (by omega) l6) [0,1] (by decide) (by simp[mkS,mkB]) (by simp[zL]) ?_;simp[mkS,mkB,zG,zL];exact mv [0,1] 0 (by rfl) (by simp[zG,zL])
 .obtain⟨a,b,m1,m2,g1,g2,k2,k3,k3',k4,k5,k6,hln⟩:=zBt (t:=j9) (u:=j9) (c':=1) hk hx hl2 hc (by omega) he h1 h2 (.bool 0) (.bool 0) (by omega) (by omega);obtain⟨l1,l2,l3,l4,l5,l6,l7,l8⟩:=hln;refine⟨.mk ⟨0,0,m2.temp⟩ 4 7 Id.zero Typ.zero [a,b] [],{m2 with temp:=m2.temp+1,left:=m2.left-1},?_,k2.trans (aD _),.andor _ _ _ _ _ (.inl rfl) k3 k3',tZ k4 k2.temp1,oS k5 k6⟩;refine zK func95 rfl zGP (rs:=[.cell 10 15 true]) (by kernel_rfl) ?_
  simp only[zEK]
  simp[mkS,mkB,zF,j9,e,wd,w0];refine mr g1 [0,1] (by simp[mkS,mkB,zF]) ?_;simp[mkS,mkB,zF,wd];refine bZ g2 [0,1] (by decide) (by simp[mkS,mkB]) (by simp[zF]) (by decide) (by simp) (by simp[mkS]) ?_;simp[mkS,mkB];refine dQ (aO m2 4 7 [a,b] l3 (by omega) (by omega) l6) [0,1] (by decide) (by simp[mkS,mkB]) (by simp[zL]) ?_;simp[mkS,mkB,zG,zL];exact mv [0,1] 0 (by rfl) (by simp[zG,zL])
 .obtain⟨a,b,m1,m2,g1,g2,k2,k3,k3',k4,k5,k6,hln⟩:=zBt (t:=j9) (u:=j9) (c':=1) hk hx hl2 hc (by omega) he h1 h2 (.bool 0) (.bool 0) (by omega) (by omega);obtain⟨l1,l2,l3,l4,l5,l6,l7,l8⟩:=hln;refine⟨.mk ⟨0,0,m2.temp⟩ 4 8 Id.zero Typ.zero [a,b] [],{m2 with temp:=m2.temp+1,left:=m2.left-1},?_,k2.trans (aD _),.andor _ _ _ _ _ (.inr rfl) k3 k3',tZ k4 k2.temp1,oS k5 k6⟩;refine zK func95 rfl zGP (rs:=[.cell 10 15 true]) (by kernel_rfl) ?_
  simp only[zEK]
  simp[mkS,mkB,zF,j9,e,wd,w1];refine mr g1 [0,1] (by simp[mkS,mkB,zF]) ?_;simp[mkS,mkB,zF,wd];refine bZ g2 [0,1] (by decide) (by simp[mkS,mkB]) (by simp[zF]) (by decide) (by simp) (by simp[mkS]) ?_;simp[mkS,mkB];refine dQ (aO m2 4 8 [a,b] l3 (by omega) (by omega) l6) [0,1] (by decide) (by simp[mkS,mkB]) (by simp[zL]) ?_;simp[mkS,mkB,zG,zL];exact mv [0,1] 0 (by rfl) (by simp[zG,zL])
theorem zV9{R:Nat}{len:Nat}(hc:0<=c)(hl2:Lim m (2*c+1))(x:Int)(hx0:0<=x)(hx1:x<=65536)
 (hk:eN hs R c (depth-1) (fun r=>r<=R) len)(hR:1<=R)(hx:Cx hs R m)(he:EnvOk hs R m.temp env)(h1:0<env.length)(h2:env.length<=len)(h3:env.length<=1000)(hd1 : -1000<=depth)(hd2:depth<=1000)(t:Typ)(ht:TyOk hs R (jX t))(h5:x.tmod 2=0) :
 cP hs m.own opF m [.ptr 0 0,.agg (zF (jX t)),.sl env.length (z6 env),int x,int depth] env (jX t) (2*c+1):=by
 have wd:=qF (depth-1) (by omega);obtain⟨a,b,m1,m2,g1,g2,k2,k3,k3',k4,k5,k6,hln⟩:=zBt (t:=(jX t)) (u:=(jX t)) (c':=1) hk hx hl2 hc (by omega) he h1 h2 ht ht (by omega) (by omega);obtain⟨l1,l2,l3,l4,l5,l6,l7,l8⟩:=hln;refine⟨.mk ⟨0,0,m2.temp⟩ 4 10 Id.zero Typ.zero [a,b] [],{m2 with temp:=m2.temp+1,left:=m2.left-1},?_,k2.trans (aD _),.join _ _ _ _ _ k3 k3',tZ k4 k2.temp1,oS k5 k6⟩;refine zK func95 rfl zGP (rs:=[.cell 10 15 true]) (by kernel_rfl) ?_
 simp only[zEK]
 simp[mkS,mkB,zF,jX,h5,wd];refine mr g1 [0,1] (by simp[mkS,mkB,zF,jX]) ?_;simp[mkS,mkB,zF,wd];refine bZ g2 [0,1] (by decide) (by simp[mkS,mkB]) (by simp[zF,jX]) (by decide) (by simp) (by simp[mkS]) ?_;simp[mkS,mkB];refine dQ (aO m2 4 10 [a,b] l3 (by omega) (by omega) l6) [0,1] (by decide) (by simp[mkS,mkB]) (by simp[zL]) ?_;simp[mkS,mkB,zG,zL];exact mv [0,1] 0 (by rfl) (by simp[zG,zL])
theorem zZF{R:Nat}{len:Nat}(hc:0<=c)(hl2:Lim m (2*c+1))(x:Int)(hx0:0<=x)(hx1:x<=65536)
 (hk:eN hs R c (depth-1) (fun r=>r<=R) len)(hR:1<=R)(hx:Cx hs R m)(he:EnvOk hs R m.temp env)(h1:0<env.length)(h2:env.length<=len)(h3:env.length<=1000)(hd1 : -1000<=depth)(hd2:depth<=1000)(t:Typ)(ht:TyOk hs R t)(h4:t.k≠0)(h5:t.k≠1)(h6:t.k≠2\/x.tmod 2≠0)(hl:Lim m (6*c+1)) :
 cP hs m.own opF m [.ptr 0 0,.agg (zF t),.sl env.length (z6 env),int x,int depth] env t (6*c+1):=by
 have d2:x.tdiv 2=x / 2:=tdN hx0;have w2:=qF (x.tdiv 2) (by omega);obtain⟨e,m',g1,g2⟩:=zSI hc hl (x.tdiv 2) (by omega) (by omega) t ht (fun r' h=>by omega) hk hx he h1 h2 hd1 hd2;refine⟨e,m',?_,g2⟩;refine zK func95 rfl zGP (rs:=[.cell 10 15 true]) (by kernel_rfl) ?_
 simp only[zEK]
 by_cases h2:t.k=2
 .have h7:x.tmod 2≠0:=h6.resolve_left (fun h=>h h2);simp[mkS,mkB,zF,h2,h7,w2];refine mr g1 [0,1] (by simp[mkS,mkB,zF,h2]) ?_;simp[mkS,mkB];exact mv [0,1] 0 (by rfl) (by simp[zG])
 .simp[mkS,mkB,zF,h2,h4,h5,w2];refine mr g1 [0,1] (by simp[mkS,mkB,zF]) ?_;simp[mkS,mkB];exact mv [0,1] 0 (by rfl) (by simp[zG])
theorem qGT{R:Nat}{len:Nat}(hc:0<=c)(hl:Lim m (7*c+7))(x:Int)(hx0:0<=x)(hx1:x<=65536)
 (hk:eN hs R c (depth-1) (fun r=>r<=R) len)(hR:1<=R)(hx:Cx hs R m)(he:EnvOk hs R m.temp env)(h1:0<env.length)(h2:env.length<=len)(h3:env.length<=1000)(hd1 : -1000<=depth)(hd2:depth<=1000)(t:Typ)(ht:TyOk hs R t) :
 cP hs m.own opF m [.ptr 0 0,.agg (zF t),.sl env.length (z6 env),int x,int depth] env t (7*c+7):=by
 have hlit:=fun h4 h5 h6=>(zZF (hl:=hl.mono (by omega)) hc (hl.mono (by omega)) x hx0 hx1 hk hR hx he h1 h2 h3 hd1 hd2 t ht h4 h5 h6).mono (show 6*c+1<=7*c+7 by omega)
 cases ht with
 |int r=>exact(zZE hc (hl.mono (by omega)) x hx0 hx1 hk hR hx he h1 h2 h3 hd1 hd2).mono (by omega)
 |bool r=>exact(zV8 hc (hl.mono (by omega)) x hx0 hx1 hk hR hx he h1 h2 h3 hd1 hd2).mono (by omega)
 |list r t h =>
  by_cases h5:x.tmod 2=0
  .exact(zV9 hc (hl.mono (by omega)) x hx0 hx1 hk hR hx he h1 h2 h3 hd1 hd2 t (.list _ _ h) h5).mono (by omega)
  .exact hlit (by simp) (by simp) (.inr h5)
 |dfn r k h h1 h2 h3 h4=>exact hlit (by simp) (by simp) (.inl (by simp))
theorem zIl:∀(v:Val),qY v<=100000000->uO v=qY v:=by
 intro v h;rw[zL6,i9];have key:∀i,i<=v.kids.length->zJ3 (v.kids.take i)=((1+j3 (v.kids.take i):Nat):Int):=by
  intro i;induction i with
  |zero=>intro _;simp[zJ3,j3]
  |succ i ih =>
   intro hi;have e1:=zEu (l:=v.kids) (i:=i) (by omega);have e2:=zCv v.kids (i+1);have e3:=i9 v;have hk:qY (v.kids[i]'(by omega))<qY v:=cV (jA0 _);rw[zIo (by omega),ih (by omega),zIl (v.kids[i]'(by omega)) (by omega),e1];rw[IntWalk.i64_in _ (by omega)];omega
 have:=key v.kids.length (jA _)
 rwa[jAs]at this
termination_by v=>qY v
def qFI:Nat->Option wE:=fun|11=>k_ [0,0,0,0,0,0,0,0,0,0,0,0,0,0,0,0,0,4,0,0,0] | 12=>k_ [2,2002,0,1002,0,0,2,0]|_=>none
abbrev zMV:FuncId:=92
theorem zST(m:Mk)(kind n:Int)(h0:0<=m.temp)(h1:m.temp<=1000000000000000)(h2 : -1000000000000000<=m.left)(h3:m.left<=1000000000000000) :
 my 89 [.ptr 0 0,int kind,int n,.sl 0 []] (mkS m) (.agg [int 0,int 0,int m.temp,int kind,int n,int 0,int 0,int 0,int 0,int 0,int 0,int 0,.nil,.sl 0 [],.nil]) (mkS {m with temp:=m.temp+1,left:=m.left-1}):=by
 refine mq [] [.cell 8 15 true] func89 (by kernel_rfl) ?_
 (conv in kq _ _=>cbv)
 have w1:=qF (m.temp+1) (by omega);have w2:=qF m.temp (by omega);have w3:=qF (m.left-1) (by omega);simp[mkS,mkB,w1,w2,w3];exact mv [0,1] 0 (by rfl) (by simp)
def zN1(hd:Hd)(j:Nat):Typ:=match hd.slots[j]? with
 |some s=>s.typ
 |none=>jT
theorem zOL{hd:Hd}{j:Nat}(h:j<hd.slots.length):zN1 hd j=hd.slots[j].typ:=by unfold zN1;rw[jA2 h]
theorem zVO{R:Nat}{hd:Hd}(h:∀s∈hd.slots,TyOk hs R s.typ)(j:Nat):TyOk hs R (zN1 hd j):=by
 unfold zN1;split
 .rename_i s hs;exact h s (jBs hs)
 .exact .int _
theorem zKK{R:Nat}{len:Nat}(hc:0<=c)(hl:Lim m (7*c+7))(x:Nat)(hx1:x<=65536)(hk:eN hs R c (depth-1) (fun r=>r<=R) len)(hk2:eN hs R c (depth-2) (fun r=>r<=R) len)
 (hx:Cx hs R m)(he:EnvOk hs R m.temp env)(h1:0<env.length)(h2:env.length+1<=len)(h3:env.length<=1000)(hd1 : -1000<=depth)(hd2:depth<=1000)(t:Typ)(ht:TyOk hs R t)
 (hop:cP hs m.own opF m [.ptr 0 0,.agg (zF t),.sl env.length (z6 env),int x,int depth] env t (7*c+7)) :
 cP hs m.own zMV m [.ptr 0 0,.agg (zF t),.sl env.length (z6 env),int x,int depth] env t (7*c+7):=by
 have hdl:=hx.dlen;have hd100:=hx.len;have hd0:=hx.len0;have wd:=qF (depth-1) (by omega);have wd2:=qF (depth-2) (by omega);rcases zV5 m 1 x with hof|⟨k,hkm,hof,hkind,hvis⟩
 .obtain⟨e,m',g1,g2⟩:=hop;refine⟨e,m',?_,g2⟩;refine ml qFI [83] [43] [] [.cell 10 15 true] func92 (by kernel_rfl) ?_
  (conv in kH _ _ _=>cbv)
  simp[mkS,mkB,zF];refine mr (zTb m 1 x (by omega) (by omega) (by omega) hx.mods) [0,1] (by simp[mkS,mkB]) ?_;simp[mkS,mkB,hof];refine mr g1 [0,1] (by simp[mkS,mkB,zF]) ?_;simp[mkS,mkB];exact mv [0,1] 0 (by rfl) (by simp[zG])
 .have hks:k<hs.length:=by omega
  have hget:=hx.get hkm;generalize hD:m.defs[k]=D at hget hkind;have eid:hs[k].id=D.id:=by rw[hget];rfl
  have eslots:hs[k].slots=D.slots:=by rw[hget];rfl
  have ekind:hs[k].kind=1:=by rw[hget];exact hkind
  obtain⟨hs6,hsT⟩:=hx.slots k hks;have hDl:D.slots.length<=6:=by rw[<-eslots];exact hs6
  obtain⟨a,m1,g1,g2,g3,g4,g5⟩:=hk2 m R (cO hs[k].id) env hx (hl.mono (by omega)) (hx.typs k hks (.inr ekind)) (jA _) he h1 (by omega);have hl1:Lim m1 (6*c+7):=Lim.adv (c:=c) (hl.mono (by omega)) g2;obtain⟨l1,l2,l3,l4,l5,l6,l7,l8⟩:=hl1;obtain⟨mA,hmA⟩:∃mA:Mk,mA={m1 with temp:=m1.temp+1,left:=m1.left-1}:=⟨_,rfl⟩;have aA:Adv m1 mA 1:=hmA▸aD m1;have tA:mA.temp=m1.temp+1:=by rw[hmA]
  have hlA:Lim mA (6*c+6):=Lim.adv (c:=1) ⟨l1,by omega,l3,by omega,by omega,l6,l7,by omega⟩ aA;have hsc:((D.slots.length:Int))*(c+1)<=6*(c+1):=jDe (by omega) (by omega);obtain⟨es,ns,ms,q0,q1,q2,q3,q4,q5⟩:=zSB hk hc (fun j=>env++[⟨⟨0,0,m1.temp⟩,j,zN1 hs[k] j⟩]) t ht (jA R) mA ((hx.adv g2).adv aA)
   (fun j=>((he.mono g2.temp1).mono aA.temp1).snoc m1.temp j _ (zVO hsT j) (fun b hb e=>by have hb':=he.new b hb (by rw[e]);rw[e]at hb';have:=g2.temp1;simp only at hb';omega) (by omega)) (fun j=>by simp) (fun j=>by simp;omega) D.slots.length (hlA.mono (by omega))
  have aE:=q3 D.slots.length (jA _);have eown:mA.own=m.own:=aA.own.trans g2.own;refine⟨.mk ⟨0,0,m1.temp⟩ 10 0 hs[k].id Typ.zero (a::es) ns,ms D.slots.length,?_,((g2.trans aA).trans aE).mono (by omega),?_,?_,i4 ?_⟩
  rotate_left
  .refine .mtch _ _ k hks a es t ns (by omega) ekind (by rw[eslots,q0]) g3 fun j hj=>?_
   have:=(q5 j hj (by omega)).elim fun mm h=>h.2.2.1
   rw[eown,zOL (by rw[eslots];omega)]at this;exact this
  .simp only[tmps,jJ];have s1:Seg m1.temp (m1.temp+1) [m1.temp]:=Seg.one _;have s2:=s1.append (b:=m1.temp+1) (tA▸q4) (by omega) (tA▸aE.temp1);have s3:=g4.append s2 g2.temp1 (by have:=aE.temp1;omega);refine s3.perm ?_;rw[jAq];exact jDl _ jDm
  .intro e' he';rcases jA1.1 he' with rfl|he'
   .exact g5
   .exact zCk rfl (fun j hj=>(q5 j hj (by omega)).elim fun mm h=>h.2.2.2) e' he'
  refine ml qFI [83] [43] [] [.cell 10 15 true] func92 (by kernel_rfl) ?_
  (conv in kH _ _ _=>cbv)
  have hdr:=yA hkm;rw[hD]at hdr;have hb31:k*31+31<=m.defs.length*31:=by omega
  have hnk:¬((k:Int)<0):=by omega
  simp[mkS,mkB,zF];refine mr (zTb m 1 x (by omega) (by omega) (by omega) hx.mods) [0,1] (by simp[mkS,mkB]) ?_;simp[mkS,mkB,hof,hnk,hkm,hdr,hb31,zJ];refine mu (zHW D.id) (by simp[zS]) ?_;simp[mkS,mkB,wd2];rw[eid]at g1;refine mr g1 [0,1] (by simp[mkS,mkB,zF,cO]) ?_;simp[mkS,mkB];refine mr (zST m1 10 0 l3 (by omega) (by omega) l6) [0,1] (by simp[mkS,mkB]) ?_;simp[mkS,mkB,zJ];refine qI (S:=Nat) (fun i=>[(0,.ptr 0 0),(2,.sl env.length (z6 env)),(4,int depth),(6,.ptr 2 0),(10,.ptr 3 0),(12,.ptr 4 0),(13,.row 5 (i+1)),(14,.ptr 6 0),(15,int i)])
   (fun i=>mkS (ms i)++[.box (zF t),.box (zG Exp.zero),.box (zJ D),.row false 40 15 (i+1) (zG a++qM (es.take i)),.box [int 0,int 0,int m1.temp,int 10,int 0,int D.id.a,int D.id.b,int D.id.c,int 0,int 0,int 0,int 0,.sl 0 [],.sl 0 [],.row 7 i],.row false 9 1 i (yJ (ns.take i))]) (fun i=>i<=es.length) (fun i=>es.length-i) 0 (by simp)
   ((yN (l:=6) (o:=14) rfl rfl 9 1).trans (mw [0,1,2,3,4,5,6,7] 0 (by rfl) (by simp[mkS,mkB,zF,q2,hmA,zG,Exp.zero,Id.zero,Typ.zero,zJ]))) ?_
  intro i hi;by_cases hi2:i<es.length
  .have hid:i<D.slots.length:=by omega
   have hin:i<ns.length:=by omega
   obtain⟨mm,g1',g2',_,_⟩:=q5 i hi2 hin;have hsty:zN1 hs[k] i=D.slots[i].typ:=by rw[zOL (by rw[eslots];exact hid)];simp only[eslots]
   have hst:qM (es.take (i+1))=qM (es.take i)++zG es[i]:=bD hi2;have hsn:yJ (ns.take (i+1))=yJ (ns.take i)++zSb ns[i]:=by unfold yJ;rw[jA7 hin,jCd];simp
   have hw:=yK i (by omega);have hdS:List.drop (i*11+4) (qP D.slots)=(aF D.slots[i]++qP (D.slots.drop (i+1))).drop 4:=by rw[<-jAu,qW hid]
   have hbS:i*11+4+5<=D.slots.length*11:=by omega
   simp[mkS,mkB,zJ,zF,hid,hdS,hbS,aF,wd];intro _;refine qC (mI env ⟨⟨0,0,m1.temp⟩,i,zN1 hs[k] i⟩ (by omega)) (by simp[cQ,hsty]) (by simp) ?_;simp[mkS,mkB,wd];refine dQ g1' [0,1] (by decide) (by simp[mkS,mkB]) (by simp[zF]) ?_;simp[mkS,mkB];refine⟨⟨by simp[maxLen];omega,by omega⟩,?_⟩;refine bZ g2' [0,1] (by decide) (by simp[mkS,mkB]) (by simp) (by decide) (by simp) (by simp[mkS]) ?_;simp[mkS,mkB];refine⟨⟨by simp[maxLen];omega,by omega⟩,?_⟩;exact zO (i+1) hi2 (by omega) (mw [0,1,2,3,4,5,6,7] 0 (by rfl) (by simp[mkS,mkB,zF,zG,Exp.zero,Id.zero,Typ.zero,zJ,hst,hsn,zSb,hw]))
  .have hie:i=es.length:=by omega
   subst hie;have hid:¬es.length<D.slots.length:=by omega
   have hnl:List.take es.length ns=ns:=jAl (by omega);simp[mkS,mkB,zJ,hid];intro _;refine⟨jO [(0,.ptr 0 0),(10,.ptr 3 0),(13,.sl (es.length+1) (qM (a::es))),(14,.ptr 4 0)],mkS (ms es.length)++[.box (zF t),.box (zG Exp.zero),.box [int 0,int 0,int m1.temp,int 10,int 0,int D.id.a,int D.id.b,int D.id.c,int 0,int 0,int 0,int 0,.sl 0 [],.sl 0 [],.sl es.length (yJ ns)]],mw [0,1,2,3,6] 1 (by rfl) (by simp[mkS,mkB,zF,zG,Exp.zero,Id.zero,Typ.zero,hnl,zL]),?_⟩;simp[mkS,mkB];exact mv [0,1] 0 (by rfl) (by simp[q0,zG,Id.zero,Typ.zero,eid,q1])
@[simp]theorem b7:∀(a b:wI),zT (a++b)=zT a++zT b
 |[],b=>by simp
 |x::a,b=>by simp[b7 a b]
variable{l:wI}
theorem qT{k n:Int}:(Val.mk k n l).k=k:=rfl
theorem qJ{k n:Int}:(Val.mk k n l).n=n:=rfl
theorem zX{k n:Int}:(Val.mk k n l).kids=l:=rfl
theorem zQ2{c:Nat}(h:∀v∈l,qY v<=c):j3 l<=l.length*c:=by
 induction l with
 |nil=>simp[j3]
 |cons v l ih =>
  have h1:=h v (jAm ..);have h2:=ih fun x hx=>h x (jAk _ hx)
  simp only[j3,jAc,jB7,Nat.one_mul];omega
abbrev zSo:FuncId:=93
theorem zOs{p:Nat->Bool}:∀{n:Nat},(∃i,i<n/\p i=true)->∃i,i<n/\p i=true/\∀j<i,p j=false
 | 0,⟨i,hi,_⟩=>by omega
 |n+1,⟨i,hi,hp⟩=>by
  by_cases h:∃i,i<n/\p i=true
  .obtain⟨j,h1,h2,h3⟩:=zOs h;exact⟨j,by omega,h2,h3⟩
  .have hin:i=n:=by
    by_cases e:i=n
    .exact e
    .exact(h ⟨i,by omega,hp⟩).elim
   subst hin;refine⟨i,by omega,hp,fun j hj=>?_⟩;cases hpj:p j
   .rfl
   .exact(h ⟨j,hj,hpj⟩).elim
def zSu(m:Mk)(t:Typ)(k:Nat):Bool:=match m.defs[k]? with
 |some d=>decide (d.kind=0)&&(zBy m k&&d.slots.any fun s=>yT s.typ t)
 |none=>false
theorem zSp{R:Nat}{len:Nat}(hc:0<=c)(hl:Lim m (7*c+7))(x:Nat)(hx1:x<=65536)(hk:eN hs R c (depth-1) (fun r=>r<=R) len)
 (hx:Cx hs R m)(he:EnvOk hs R m.temp env)(h1:0<env.length)(h2:env.length<=len)(h3:env.length<=1000)(hd1 : -1000<=depth)(hd2:depth<=1000)(t:Typ)(ht:TyOk hs R t)
 (hop:cP hs m.own opF m [.ptr 0 0,.agg (zF t),.sl env.length (z6 env),int x,int depth] env t (7*c+7)) :
 cP hs m.own zSo m [.ptr 0 0,.agg (zF t),.sl env.length (z6 env),int x,int depth] env t (7*c+7):=by
 have hdl:=hx.dlen;have hd100:=hx.len;have hd0:=hx.len0;have hN:0<m.defs.length:=by omega
 have wd:=qF (depth-1) (by omega);obtain⟨i0,e,m',hi0,hlow,hfull,hhit,hA,hW,hS,hZ⟩:∃(i0:Nat) (e:Exp) (m':Mk),i0<=m.defs.length/\(∀i<i0,zSu m t ((x+i) % m.defs.length)=false) /\
  (i0=m.defs.length->my opF [.ptr 0 0,.agg (zF t),.sl env.length (z6 env),int x,int depth] (mkS m) (.agg (zG e)) (mkS m')) /\
  (∀(hlt:i0<m.defs.length) (D:Dfn),m.defs[(x+i0) % m.defs.length]?=some D->D.kind=0/\zBy m ((x+i0) % m.defs.length)=true/\∃(j0:Nat) (hj0:j0<D.slots.length) (a:Exp) (m1:Mk),yT D.slots[j0].typ t=true/\(∀(j:Nat) (hj:j<j0),yT D.slots[j].typ t=false) /\
   my bG [.ptr 0 0,.agg (zF (cO D.id)),.sl env.length (z6 env),int (depth-1)] (mkS m) (.agg (zG a)) (mkS m1)/\Lim m1 1 /\
   e=.mk ⟨0,0,m1.temp⟩ 8 j0 D.id Typ.zero [a] []/\m'={m1 with temp:=m1.temp+1,left:=m1.left-1}) /\
  Adv m m' (7*c+7)/\WT hs m.own env e t/\Seg m.temp m'.temp (tmps e)/\e.num0:=by
  by_cases hex:∃i,i<m.defs.length/\zSu m t ((x+i) % m.defs.length)=true
  .obtain⟨i0,hi0,hp,hlow⟩:=zOs hex;have hkm:=Nat.mod_lt (x+i0) hN;generalize hkk:(x+i0) % m.defs.length=k at hkm hp;have hks:k<hs.length:=by omega
   have hget:=hx.get hkm;unfold zSu at hp;rw[jA2 hkm]at hp;simp only[jA8,decide_eq_true_eq]at hp;generalize hD:m.defs[k]=D at hget hp;obtain⟨hkind,hvis,hany⟩:=hp;have eid:hs[k].id=D.id:=by rw[hget];rfl
   have eslots:hs[k].slots=D.slots:=by rw[hget];rfl
   have ekind:hs[k].kind=0:=by rw[hget];exact hkind
   obtain⟨j0,hj0,hpj,hlj⟩:=zOs (p:=fun j=>match D.slots[j]? with|some s=>yT s.typ t|none=>false) (n:=D.slots.length) (by
    rw[List.any_eq_true]at hany;obtain⟨s,hs1,hs2⟩:=hany;obtain⟨j,hj,rfl⟩:=jAe hs1;exact⟨j,hj,by simp only[jA2 hj];exact hs2⟩)
   simp only[jA2 hj0]at hpj;obtain⟨a,m1,g1,g2,g3,g4,g5⟩:=hk m R (cO hs[k].id) env hx (hl.mono (by omega)) (hx.typs k hks (.inl ekind)) (jA _) he h1 h2;refine⟨i0,.mk ⟨0,0,m1.temp⟩ 8 j0 D.id Typ.zero [a] [],{m1 with temp:=m1.temp+1,left:=m1.left-1},by omega,hlow,fun h=>by omega,fun hlt D' hD'=>?_,(g2.trans (aD _)).mono (by omega),?_,zJz g4 g2.temp1,zFT g5⟩
   .rw[hkk,jA2 hkm,hD]at hD';injection hD' with hD'
    subst hD';rw[hkk];refine⟨hkind,hvis,j0,hj0,a,m1,hpj,fun j hj=>?_,by rw[<-eid];exact g1,Lim.adv (c:=c) (hl.mono (by omega)) g2,rfl,rfl⟩;have:=hlj j hj;simp only[jA2 (show j<D.slots.length by omega)]at this;exact this
   .have hjs:j0<hs[k].slots.length:=by rw[eslots];exact hj0
    have:=WT.field (own:=m.own) env ⟨0,0,m1.temp⟩ k hks j0 hjs a ekind g3;rw[eid]at this;have e2:hs[k].slots[j0].typ=t:=by rw[<-(gJ _ _).1 hpj];simp only[eslots]
    rw[e2]at this;exact this
  .obtain⟨e,m',g1,g2,g3,g4,g5⟩:=hop;refine⟨m.defs.length,e,m',jA _,fun i hi=>?_,fun _=>g1,fun h=>by omega,g2,g3,g4,g5⟩;cases hp:zSu m t ((x+i) % m.defs.length)
   .rfl
   .exact(hex ⟨i,hi,hp⟩).elim
 refine⟨e,m',?_,hA,hW,hS,hZ⟩;refine mq [] [.cell 10 15 true] func93 (by kernel_rfl) ?_
 (conv in kq _ _=>cbv)
 simp[mkS,mkB,zF];refine qI (S:=Nat) (fun i=>[(0,.ptr 0 0),(2,.sl env.length (z6 env)),(3,int x),(4,int depth),(6,.ptr 2 0),(10,.ptr 3 0),(11,int i)])
  (fun _=>mkS m++[.box (zF t),.box (zG Exp.zero)]) (fun i=>i<=i0) (fun i=>i0-i) 0 (by simp)
  (mw [0,1,2,3] 0 (by rfl) (by simp[mkS,mkB,zF,zG,Exp.zero,Id.zero,Typ.zero])) ?_
 intro i hi;by_cases h:i<m.defs.length
 .have hkm:=Nat.mod_lt (x+i) hN;have w1:=qF ((x:Int)+i) (by omega);have w2:=yK i (by omega);have e1:Int.tmod ((x:Int)+i) (m.defs.length:Int)=(((x+i) % m.defs.length:Nat):Int):=by rw[tmN (by omega)];simp
  have hnil:m.defs≠[]:=fun e=>by rw[e]at hN;simp at hN
  have hne:¬((m.defs.length:Int)=0):=by omega
  have hlow':=fun hlt:i<i0=>hlow i hlt
  have hhit':i=i0->_:=fun e=>hhit (by omega) m.defs[(x+i) % m.defs.length] (by rw[<-e,jA2 hkm])
  unfold zSu at hlow';rw[jA2 hkm]at hlow';have hsl:m.defs[(x+i) % m.defs.length].slots.length<=6:=by have:=(hx.slots ((x+i) % m.defs.length) (by omega)).1;rw[hx.get hkm]at this;exact this
  generalize hkk:(x+i) % m.defs.length=k at hkm e1 hlow' hhit' hsl;generalize hD:m.defs[k]=D at hlow' hhit' hsl;have hdr:=yA hkm;rw[hD]at hdr;have hb31:k*31+31<=m.defs.length*31:=by omega
  simp[mkS,mkB,h,w1,e1,hne,hkm,hdr,hb31,zJ,hnil];by_cases hlt:i<i0
  .have hno:=hlow' hlt;refine qI (S:=Nat) (fun j=>[(0,.ptr 0 0),(2,.sl env.length (z6 env)),(3,int x),(4,int depth),(6,.ptr 2 0),(10,.ptr 3 0),(11,int i),(12,int k),(13,.ptr 4 0),(14,int j)])
    (fun _=>mkS m++[.box (zF t),.box (zG Exp.zero),.box (zJ D)]) (fun j=>j<=D.slots.length) (fun j=>D.slots.length-j) 0 (by simp)
    (mw [0,1,2,3,4] 0 (by rfl) (by simp[mkS,mkB,zF,zG,Exp.zero,Id.zero,Typ.zero,zJ])) ?_
   intro j hj;by_cases hjl:j<D.slots.length
   .have hdS:List.drop (j*11+4) (qP D.slots)=(aF D.slots[j]++qP (D.slots.drop (j+1))).drop 4:=by rw[<-jAu,qW hjl]
    have hbS:j*11+4+5<=D.slots.length*11:=by omega
    by_cases hkd:D.kind=0
    .simp[mkS,mkB,zJ,zF,hjl,hkd];intro _;refine mr (zGD m k hkm hx.mods) [0,1] (by simp[mkS,mkB]) ?_;cases hv:zBy m k
     .simp[mkS,mkB];exact zO (i+1) (by omega) (by omega) (mw [0,1,2,3] 0 (by rfl) (by simp[mkS,mkB,zF,zG,Exp.zero,Id.zero,Typ.zero,w2]))
     .have hsf:yT D.slots[j].typ t=false:=by
       simp only[hkd,hv,decide_true,jCp]at hno;rw[List.any_eq_false]at hno
       simpa using hno D.slots[j] (jA0 hjl)
      have hw:=yK j (by omega);simp[mkS,mkB,zJ,zF,hjl,hdS,hbS,aF];refine qC (oH D.slots[j].typ t) (by simp[zF]) (by simp) ?_;rw[hsf];simp[mkS,mkB];exact zO (j+1) hjl (by omega) (mw [0,1,2,3,4] 0 (by rfl) (by simp[mkS,mkB,zF,zG,Exp.zero,Id.zero,Typ.zero,zJ,hkd,hw]))
    .simp[mkS,mkB,zJ,zF,hjl,hkd];intro _;exact zO (i+1) (by omega) (by omega) (mw [0,1,2,3] 0 (by rfl) (by simp[mkS,mkB,zF,zG,Exp.zero,Id.zero,Typ.zero,w2]))
   .simp[mkS,mkB,zJ,zF,hjl];intro _;exact zO (i+1) (by omega) (by omega) (mw [0,1,2,3] 0 (by rfl) (by simp[mkS,mkB,zF,zG,Exp.zero,Id.zero,Typ.zero,w2]))
  .have hie:i=i0:=by omega
   subst hie;obtain⟨hkd,hv,j0,hj0,a,m1,hj1,hj2,g1,hln,he1,he2⟩:=hhit' rfl;rw[hkk]at hv;obtain⟨l1,l2,l3,l4,l5,l6,l7,l8⟩:=hln;subst he1 he2;refine qI (S:=Nat) (fun j=>[(0,.ptr 0 0),(2,.sl env.length (z6 env)),(3,int x),(4,int depth),(6,.ptr 2 0),(10,.ptr 3 0),(11,int i),(12,int k),(13,.ptr 4 0),(14,int j)])
    (fun _=>mkS m++[.box (zF t),.box (zG Exp.zero),.box (zJ D)]) (fun j=>j<=j0) (fun j=>j0-j) 0 (by simp)
    (mw [0,1,2,3,4] 0 (by rfl) (by simp[mkS,mkB,zF,zG,Exp.zero,Id.zero,Typ.zero,zJ])) ?_
   intro j hj;have hjl:j<D.slots.length:=by omega
   have hdS:List.drop (j*11+4) (qP D.slots)=(aF D.slots[j]++qP (D.slots.drop (j+1))).drop 4:=by rw[<-jAu,qW hjl]
   have hbS:j*11+4+5<=D.slots.length*11:=by omega
   have hw:=yK j (by omega);simp[mkS,mkB,zJ,zF,hjl,hkd];intro _;refine mr (zGD m k hkm hx.mods) [0,1] (by simp[mkS,mkB]) ?_;rw[hv];simp[mkS,mkB,zJ,zF,hjl,hdS,hbS,aF];refine qC (oH D.slots[j].typ t) (by simp[zF]) (by simp) ?_;by_cases hjj:j<j0
   .rw[hj2 j hjj];simp[mkS,mkB];exact zO (j+1) hjj (by omega) (mw [0,1,2,3,4] 0 (by rfl) (by simp[mkS,mkB,zF,zG,Exp.zero,Id.zero,Typ.zero,zJ,hkd,hw]))
   .have hje:j=j0:=by omega
    subst hje;rw[hj1];simp[mkS,mkB];refine mu (zHW D.id) (by simp[zS]) ?_;simp[mkS,mkB,wd];refine mr g1 [0,1] (by simp[mkS,mkB,zF,cO]) ?_;simp[mkS,mkB];refine mr (aO m1 8 j [a] l3 (by omega) (by omega) l6) [0,1] (by simp[mkS,mkB,zL]) ?_;simp[mkS,mkB,zG];exact mv [0,1] 0 (by rfl) (by simp[zG,zL])
 .have hii:i=m.defs.length:=by omega
  have hi0':i0=m.defs.length:=by omega
  subst hii;simp[mkS,mkB,zF];refine mr (hfull hi0') [0,1] (by simp[mkS,mkB,zF]) ?_;simp[mkS,mkB];exact mv [0,1] 0 (by rfl) (by simp[zG])
abbrev zRD:FuncId:=94
def zRB(m:Mk)(t:Typ)(k:Nat):Bool:=match m.defs[k]? with
 |some d=>decide (d.kind=2)&&(zBy m k&&yT d.res t)
 |none=>false
theorem zNT{R:Nat}{len:Nat}(hc:0<=c)(hl:Lim m (7*c+7))(x:Nat)(hk:eN hs R c (depth-1) (fun r=>r<=R) len)
 (hx:Cx hs R m)(he:EnvOk hs R m.temp env)(h1:0<env.length)(h2:env.length<=len)(hd1 : -1000<=depth)(hd2:depth<=1000)(t:Typ)
 (hop:cP hs m.own opF m [.ptr 0 0,.agg (zF t),.sl env.length (z6 env),int x,int depth] env t (7*c+7)) :
 cP hs m.own zRD m [.ptr 0 0,.agg (zF t),.sl env.length (z6 env),int x,int depth] env t (7*c+7):=by
 have hdl:=hx.dlen;have hd100:=hx.len;have hd0:=hx.len0;have hN:0<m.defs.length:=by omega
 have wd:=qF (depth-1) (by omega);obtain⟨i0,e,m',hi0,hlow,hfull,hhit,hA,hW,hS,hZ⟩:∃(i0:Nat) (e:Exp) (m':Mk),i0<=m.defs.length/\(∀i<i0,zRB m t i=false) /\
  (i0=m.defs.length->my opF [.ptr 0 0,.agg (zF t),.sl env.length (z6 env),int x,int depth] (mkS m) (.agg (zG e)) (mkS m')) /\
  (∀(D:Dfn),m.defs[i0]?=some D->D.kind=2/\zBy m i0=true/\D.res=t/\∃(es:wH) (ms:Nat->Mk),es.length=D.slots.length/\ms 0=m/\Lim (ms es.length) 1 /\
   (∀(j:Nat) (hj:j<es.length) (hj':j<D.slots.length),my bG [.ptr 0 0,.agg (zF D.slots[j].typ),.sl env.length (z6 env),int (depth-1)] (mkS (ms j)) (.agg (zG es[j])) (mkS (ms (j+1)))) /\
   e=.mk ⟨0,0,(ms es.length).temp⟩ 3 0 D.id Typ.zero es []/\m'={ms es.length with temp:=(ms es.length).temp+1,left:=(ms es.length).left-1}) /\
  Adv m m' (7*c+7)/\WT hs m.own env e t/\Seg m.temp m'.temp (tmps e)/\e.num0:=by
  by_cases hex:∃i,i<m.defs.length/\zRB m t i=true
  .obtain⟨k,hkm,hp,hlow⟩:=zOs hex;have hks:k<hs.length:=by omega
   have hget:=hx.get hkm;unfold zRB at hp;rw[jA2 hkm]at hp;simp only[jA8,decide_eq_true_eq]at hp;generalize hD:m.defs[k]=D at hget hp;obtain⟨hkind,hvis,hst⟩:=hp;have hres:=(gJ _ _).1 hst;have eid:hs[k].id=D.id:=by rw[hget];rfl
   have eslots:hs[k].slots=D.slots:=by rw[hget];rfl
   have eres:hs[k].res=D.res:=by rw[hget];rfl
   have ekind:hs[k].kind=2:=by rw[hget];exact hkind
   obtain⟨hs6,hsT⟩:=hx.slots k hks;rw[eslots]at hs6 hsT;have hsc:((D.slots.length:Int))*c<=6*c:=jDe (by omega) hc;obtain⟨es,ms,q1,q2,q3,q4,q5⟩:=zOp hk hc env h1 h2 (D.slots.map (·.typ)) m hx (hl.mono (by rw[jAb];omega)) (fun t ht=>by obtain⟨s,hs',rfl⟩:=jA9.1 ht;exact⟨R,hsT s hs',jA _⟩) he
   rw[jAb]at q1 q3 q4;have ha:=(q3 D.slots.length (jA _)).mono hsc;have hl1:Lim (ms es.length) 1:=by rw[q1];exact Lim.adv (c:=6*c) (c':=1) (hl.mono (by omega)) ha
   refine⟨k,.mk ⟨0,0,(ms es.length).temp⟩ 3 0 D.id Typ.zero es [],{ms es.length with temp:=(ms es.length).temp+1,left:=(ms es.length).left-1},by omega,hlow,fun h=>by omega,fun D' hD'=>?_,by rw[q1];exact(ha.trans (aD _)).mono (by omega),?_,
    by simp only[tmps];rw[q1];exact q4.append (Seg.one _) ha.temp1 (by omega),i4 (zCk rfl fun j hj=>(q5 j hj (by rw[jAb];omega)).2.2)⟩
   .rw[jA2 hkm,hD]at hD';injection hD' with hD'
    subst hD';refine⟨hkind,hvis,hres,es,ms,q1,q2,hl1,fun j hj hj'=>?_,rfl,rfl⟩;have:=(q5 j hj (by rw[jAb];omega)).1;rw[jB]at this;exact this
   .have:=WT.call (own:=m.own) env ⟨0,0,(ms es.length).temp⟩ k hks es (zVR hvis) ekind (by rw[eslots,q1]) (fun j hj=>by
     have:=(q5 j hj (by rw[jAb];omega)).2.1;rw[jB]at this
     simpa only[eslots]using this)
    rw[eid,eres,hres]at this;exact this
  .obtain⟨e,m',g1,g2,g3,g4,g5⟩:=hop;refine⟨m.defs.length,e,m',jA _,fun i hi=>?_,fun _=>g1,(fun D h=>by rw[jBf (jA _)]at h;cases h),g2,g3,g4,g5⟩;cases hp:zRB m t i
   .rfl
   .exact(hex ⟨i,hi,hp⟩).elim
 refine⟨e,m',?_,hA,hW,hS,hZ⟩;refine mj [69] [] [] [.cell 10 15 true] func94 (by kernel_rfl) ?_
 (conv in kH _ _ _=>cbv)
 simp[mkS,mkB,zF];refine qI (S:=Nat) (fun i=>[(0,.ptr 0 0),(2,.sl env.length (z6 env)),(3,int x),(4,int depth),(6,.ptr 2 0),(10,.ptr 3 0),(11,int i)])
  (fun _=>mkS m++[.box (zF t),.box (zG Exp.zero)]) (fun i=>i<=i0) (fun i=>i0-i) 0 (by simp)
  (mw [0,1,2,3] 0 (by rfl) (by simp[mkS,mkB,zF,zG,Exp.zero,Id.zero,Typ.zero])) ?_
 intro i hi;by_cases h:i<m.defs.length
 .have w2:=yK i (by omega);have hlow':=fun hlt:i<i0=>hlow i hlt
  have hhit':i=i0->_:=fun e=>hhit m.defs[i] (by rw[<-e,jA2 h])
  unfold zRB at hlow';rw[jA2 h]at hlow';have hsl:m.defs[i].slots.length<=6:=by have:=(hx.slots i (by omega)).1;rw[hx.get h]at this;exact this
  have hdr:=yA h;have hb31:i*31+31<=m.defs.length*31:=by omega
  generalize m.defs[i]=D at hlow' hhit' hsl hdr;by_cases hlt:i<i0
  .have hno:=hlow' hlt;simp only at hno;by_cases hkd:D.kind=2
   .simp[mkS,mkB,h,hdr,hb31,zJ,hkd];refine mr (zGD m i h hx.mods) [0,1] (by simp[mkS,mkB]) ?_;cases hv:zBy m i
    .simp[mkS,mkB];exact zO (i+1) (by omega) (by omega) (mw [0,1,2,3] 0 (by rfl) (by simp[mkS,mkB,zF,zG,Exp.zero,Id.zero,Typ.zero,w2]))
    .have hsf:yT D.res t=false:=by simpa[hkd,hv]using hno
     simp[mkS,mkB,zJ,zF];refine mu (oH D.res t) (by simp[zF]) ?_;rw[hsf];simp[mkS,mkB];exact zO (i+1) (by omega) (by omega) (mw [0,1,2,3] 0 (by rfl) (by simp[mkS,mkB,zF,zG,Exp.zero,Id.zero,Typ.zero,w2]))
   .simp[mkS,mkB,h,hdr,hb31,zJ,hkd];exact zO (i+1) (by omega) (by omega) (mw [0,1,2,3] 0 (by rfl) (by simp[mkS,mkB,zF,zG,Exp.zero,Id.zero,Typ.zero,w2]))
  .have hie:i=i0:=by omega
   subst hie;obtain⟨hkd,hv,hres,es,ms,q1,q2,hln,g1,he1,he2⟩:=hhit' rfl;obtain⟨l1,l2,l3,l4,l5,l6,l7,l8⟩:=hln;subst he1 he2;simp[mkS,mkB,h,hdr,hb31,zJ,hkd];refine mr (zGD m i h hx.mods) [0,1] (by simp[mkS,mkB]) ?_;rw[hv];simp[mkS,mkB,zJ,zF];refine mu (oH D.res t) (by simp[zF]) ?_;rw[show yT D.res t=true from (gJ _ _).2 hres];simp[mkS,mkB];refine qI (S:=Nat) (fun j=>[(0,.ptr 0 0),(2,.sl env.length (z6 env)),(4,int depth),(10,.ptr 3 0),(12,.ptr 4 0),(13,.row 5 j),(14,int j)])
    (fun j=>mkS (ms j)++[.box (zF t),.box (zG Exp.zero),.box (zJ D),.row false 40 15 j (qM (es.take j))]) (fun j=>j<=es.length) (fun j=>es.length-j) 0 (by simp)
    ((jS (t:=13) (by simp) 40 15).trans (mw [0,1,2,3,4,5] 0 (by rfl) (by simp[mkS,mkB,zF,q2,zG,Exp.zero,Id.zero,Typ.zero,zJ,hkd]))) ?_
   intro j hj;by_cases hj2:j<es.length
   .have hjd:j<D.slots.length:=by omega
    have g1':=g1 j hj2 hjd;have hst:qM (es.take (j+1))=qM (es.take j)++zG es[j]:=bD hj2;have hw:=yK j (by omega);have hdS:List.drop (j*11+4) (qP D.slots)=(aF D.slots[j]++qP (D.slots.drop (j+1))).drop 4:=by rw[<-jAu,qW hjd]
    have hbS:j*11+4+5<=D.slots.length*11:=by omega
    simp[mkS,mkB,zJ,hjd,hdS,hbS,aF,wd];intro _;refine mr g1' [0,1] (by simp[mkS,mkB,zF]) ?_;simp[mkS,mkB];refine⟨⟨by simp[maxLen];omega,by omega⟩,?_⟩;exact zO (j+1) hj2 (by omega) (mw [0,1,2,3,4,5] 0 (by rfl) (by simp[mkS,mkB,zF,zG,Exp.zero,Id.zero,Typ.zero,hst,zJ,hw]))
   .have hje:j=es.length:=by omega
    subst hje;have hid:¬es.length<D.slots.length:=by omega
    simp[mkS,mkB,zJ,hid];intro _;refine⟨jO [(0,.ptr 0 0),(10,.ptr 3 0),(12,.ptr 4 0),(13,.sl es.length (qM es))],mkS (ms es.length)++[.box (zF t),.box (zG Exp.zero),.box (zJ D)],mw [0,1,2,3,4] 1 (by rfl) (by simp[mkS,mkB,zF,zG,Exp.zero,Id.zero,Typ.zero,zJ]),?_⟩;simp[mkS,mkB];refine mr (aO (ms es.length) 3 0 es l3 (by omega) (by omega) l6) [0,1] (by simp[mkS,mkB]) ?_;simp[mkS,mkB,zG,zJ];exact mv [0,1] 0 (by rfl) (by simp[zG])
 .have hii:i=m.defs.length:=by omega
  have hi0':i0=m.defs.length:=by omega
  subst hii;simp[mkS,mkB,zF];refine mr (hfull hi0') [0,1] (by simp[mkS,mkB,zF]) ?_;simp[mkS,mkB];exact mv [0,1] 0 (by rfl) (by simp[zG])
def qFG:Nat->Option wE:=fun|14=>k_ [0,2002,2002,0,0,0,0,0,1002,0,4,0] | 20=>k_ [2002,0,0,0,0,0,0,0,0,0,0,1002,0,2,0] | 34=>k_ [2002,2002,0,0,0,0,0,1002,0,2,0]|_=>none
noncomputable def rK:{k:K//zV prog f37 qFG []=k}:=⟨_,by conv=>lhs;cbv⟩
theorem sQ:kx f37 qFG rK.1:=mz (by kernel_rfl)
abbrev zKY:FuncId:=85
abbrev zKo:FuncId:=86
variable{m0:Mk}{t:Typ}{X:Int}{F:wJ}
theorem zP2(hd1 : -1000<=depth)(hd2:depth<=1000)(hX0:0<=X)(hX1:X<65536)(hF:F.length<=1000)(hE0:0<env.length)(hE:env.length<=1000)
 (hnum:my zKY [.ptr 0 0,int 65536] (mkS m) (int X) (mkS m0))(hfit:my zKo [.sl env.length (z6 env),.agg (zF t)] [] (.sl F.length (z6 F)) [])(hleft:0<m0.left)(hd:0<depth)(hF0:F≠[])(hX3:X.tmod 3=0)(h0:0<=m0.temp)(h1:m0.temp<=1000000000000000)(h2 : -1000000000000000<=m0.left)(h3:m0.left<=1000000000000000) :
 ∃b∈F,my bG [.ptr 0 0,.agg (zF t),.sl env.length (z6 env),int depth] (mkS m) (.agg (zG (.mk ⟨0,0,m0.temp⟩ 2 b.n b.id Typ.zero [] []))) (mkS {m0 with temp:=m0.temp+1,left:=m0.left-1}):=by
 have hl':¬m0.left<=0:=by omega
 have hd':¬depth<=0:=by omega
 have d3:X.tdiv 3=X / 3:=tdN hX0;have w3:=qF (X.tdiv 3) (by omega);have hFl:0<F.length:=by cases F with
  |nil=>exact(hF0 rfl).elim
  |cons=>simp
 obtain⟨j,hj,e1⟩:∃j:Nat,j<F.length/\(X.tdiv 3).tmod (F.length:Int)=j:=by
  have q0:0<=X.tdiv 3:=by omega
  have q1:=jDf (X.tdiv 3) (b:=(F.length:Int)) (by omega);have q2:=jD8 (X.tdiv 3) (b:=(F.length:Int)) (by omega);exact⟨((X.tdiv 3) % F.length).toNat,by omega,by rw[tmN q0];omega⟩
 have hdr:=iD hj;have hbj:j*9+9<=F.length*9:=by omega
 have hne:¬((F.length:Int)=0):=by omega
 refine⟨F[j],jA0 hj,?_⟩;have hvar:=zTL m0 F[j] h0 h1 h2 h3;refine zK func37 rfl sQ (rs:=[.cell 8 15 true]) (by kernel_rfl) ?_
 simp only[rK]
 simp[mkS,mkB,zF];refine mr hnum [0,1] (by simp[mkS,mkB]) ?_;simp[mkS,mkB];refine mu hfit (by simp[zF]) ?_;simp[mkS,mkB,hl',hd',hX3,hFl,hF0,w3,e1,hne,hj,hdr,hbj];intro _;refine mr hvar [0,1] (by simp[mkS,mkB,cQ]) ?_;simp[mkS,mkB,zG];exact mv [0,1] 0 (by rfl) (by simp[zG])
theorem zP3(hd1 : -1000<=depth)(hd2:depth<=1000)(hX0:0<=X)(hX1:X<65536)(hF:F.length<=1000)(hE0:0<env.length)(hE:env.length<=1000)
 (hnum:my zKY [.ptr 0 0,int 65536] (mkS m) (int X) (mkS m0))(hfit:my zKo [.sl env.length (z6 env),.agg (zF t)] [] (.sl F.length (z6 F)) []){d:Int}(hd:d<=0)(hcase:m0.left<=0/\0<depth/\d=0\/m0.left<=0/\depth<=0/\d=depth\/0<m0.left/\depth<=0/\d=depth)(hF0:F≠[])(h0:0<=m0.temp)(h1:m0.temp<=1000000000000000)(h2 : -1000000000000000<=m0.left)(h3:m0.left<=1000000000000000) :
 ∃b∈F,my bG [.ptr 0 0,.agg (zF t),.sl env.length (z6 env),int depth] (mkS m) (.agg (zG (.mk ⟨0,0,m0.temp⟩ 2 b.n b.id Typ.zero [] []))) (mkS {m0 with temp:=m0.temp+1,left:=m0.left-1}):=by
 have d3:X.tdiv 3=X / 3:=tdN hX0;have w3:=qF (X.tdiv 3) (by omega);have hFl:0<F.length:=by cases F with
  |nil=>exact(hF0 rfl).elim
  |cons=>simp
 obtain⟨j,hj,e1⟩:∃j:Nat,j<F.length/\(X.tdiv 3).tmod (F.length:Int)=j:=by
  have q0:0<=X.tdiv 3:=by omega
  have q1:=jDf (X.tdiv 3) (b:=(F.length:Int)) (by omega);have q2:=jD8 (X.tdiv 3) (b:=(F.length:Int)) (by omega);exact⟨((X.tdiv 3) % F.length).toNat,by omega,by rw[tmN q0];omega⟩
 have hdr:=iD hj;have hbj:j*9+9<=F.length*9:=by omega
 have hne:¬((F.length:Int)=0):=by omega
 refine⟨F[j],jA0 hj,?_⟩;have hvar:=zTL m0 F[j] h0 h1 h2 h3;rcases hcase with ⟨hl1,hp,hdd⟩|⟨hl1,hp,hdd⟩|⟨hl1,hp,hdd⟩
 .subst hdd;refine zK func37 rfl sQ (rs:=[.cell 8 15 true]) (by kernel_rfl) ?_
  simp only[rK]
  simp[mkS,mkB,zF];refine mr hnum [0,1] (by simp[mkS,mkB]) ?_;simp[mkS,mkB];refine mu hfit (by simp[zF]) ?_;simp[mkS,mkB,hl1,hp,hFl,hF0,w3,e1,hne,hj,hdr,hbj];intro _;refine mr hvar [0,1] (by simp[mkS,mkB,cQ]) ?_;simp[mkS,mkB,zG];exact mv [0,1] 0 (by rfl) (by simp[zG])
 .have hp0:¬0<depth:=by omega
  subst hdd;refine zK func37 rfl sQ (rs:=[.cell 8 15 true]) (by kernel_rfl) ?_
  simp only[rK]
  simp[mkS,mkB,zF];refine mr hnum [0,1] (by simp[mkS,mkB]) ?_;simp[mkS,mkB];refine mu hfit (by simp[zF]) ?_;simp[mkS,mkB,hl1,hp,hp0,hFl,hF0,w3,e1,hne,hj,hdr,hbj];intro _;refine mr hvar [0,1] (by simp[mkS,mkB,cQ]) ?_;simp[mkS,mkB,zG];exact mv [0,1] 0 (by rfl) (by simp[zG])
 .have hp0:¬0<depth:=by omega
  have hl2:¬m0.left<=0:=by omega
  subst hdd;refine zK func37 rfl sQ (rs:=[.cell 8 15 true]) (by kernel_rfl) ?_
  simp only[rK]
  simp[mkS,mkB,zF];refine mr hnum [0,1] (by simp[mkS,mkB]) ?_;simp[mkS,mkB];refine mu hfit (by simp[zF]) ?_;simp[mkS,mkB,hl2,hp,hFl,hF0,w3,e1,hne,hj,hdr,hbj];intro _;refine mr hvar [0,1] (by simp[mkS,mkB,cQ]) ?_;simp[mkS,mkB,zG];exact mv [0,1] 0 (by rfl) (by simp[zG])
variable{e:Exp}{m':Mk}
theorem zZh(hd1 : -1000<=depth)(hd2:depth<=1000)(hX0:0<=X)(hX1:X<65536)(hF:F.length<=1000)(hE0:0<env.length)(hE:env.length<=1000)
 (hnum:my zKY [.ptr 0 0,int 65536] (mkS m) (int X) (mkS m0))(hfit:my zKo [.sl env.length (z6 env),.agg (zF t)] [] (.sl F.length (z6 F)) []){d:Int}(hd:d<=0)(hcase:m0.left<=0/\0<depth/\d=0\/m0.left<=0/\depth<=0/\d=depth\/0<m0.left/\depth<=0/\d=depth)(hF0:F=[])(hlit:my zJb [.ptr 0 0,.agg (zF t),.sl env.length (z6 env),int (X.tdiv 3),int d] (mkS m0) (.agg (zG e)) (mkS m')) :
 my bG [.ptr 0 0,.agg (zF t),.sl env.length (z6 env),int depth] (mkS m) (.agg (zG e)) (mkS m'):=by
 have d3:X.tdiv 3=X / 3:=tdN hX0;have w3:=qF (X.tdiv 3) (by omega);subst hF0;rcases hcase with ⟨hl1,hp,hdd⟩|⟨hl1,hp,hdd⟩|⟨hl1,hp,hdd⟩
 .subst hdd;refine zK func37 rfl sQ (rs:=[.cell 8 15 true]) (by kernel_rfl) ?_
  simp only[rK]
  simp[mkS,mkB,zF];refine mr hnum [0,1] (by simp[mkS,mkB]) ?_;simp[mkS,mkB];refine mu hfit (by simp[zF]) ?_;simp[mkS,mkB,hl1,hp,w3];refine mr hlit [0,1] (by simp[mkS,mkB,zF]) ?_;simp[mkS,mkB,zG];exact mv [0,1] 0 (by rfl) (by simp[zG])
 .have hp0:¬0<depth:=by omega
  subst hdd;refine zK func37 rfl sQ (rs:=[.cell 8 15 true]) (by kernel_rfl) ?_
  simp only[rK]
  simp[mkS,mkB,zF];refine mr hnum [0,1] (by simp[mkS,mkB]) ?_;simp[mkS,mkB];refine mu hfit (by simp[zF]) ?_;simp[mkS,mkB,hl1,hp,hp0,w3];refine mr hlit [0,1] (by simp[mkS,mkB,zF]) ?_;simp[mkS,mkB,zG];exact mv [0,1] 0 (by rfl) (by simp[zG])
 .have hp0:¬0<depth:=by omega
  have hl2:¬m0.left<=0:=by omega
  subst hdd;refine zK func37 rfl sQ (rs:=[.cell 8 15 true]) (by kernel_rfl) ?_
  simp only[rK]
  simp[mkS,mkB,zF];refine mr hnum [0,1] (by simp[mkS,mkB]) ?_;simp[mkS,mkB];refine mu hfit (by simp[zF]) ?_;simp[mkS,mkB,hl2,hp,w3];refine mr hlit [0,1] (by simp[mkS,mkB,zF]) ?_;simp[mkS,mkB,zG];exact mv [0,1] 0 (by rfl) (by simp[zG])
theorem qF7(hd1 : -1000<=depth)(hd2:depth<=1000)(hX0:0<=X)(hX1:X<65536)(hF:F.length<=1000)(hE0:0<env.length)(hE:env.length<=1000)
 (hnum:my zKY [.ptr 0 0,int 65536] (mkS m) (int X) (mkS m0))(hfit:my zKo [.sl env.length (z6 env),.agg (zF t)] [] (.sl F.length (z6 F)) [])(hleft:0<m0.left)(hd:0<depth)(hc:F=[]\/X.tmod 3≠0)(hk:9<=(X.tdiv 3).tmod 12)(hop:my opF [.ptr 0 0,.agg (zF t),.sl env.length (z6 env),int (X.tdiv 36),int depth] (mkS m0) (.agg (zG e)) (mkS m')) :
 my bG [.ptr 0 0,.agg (zF t),.sl env.length (z6 env),int depth] (mkS m) (.agg (zG e)) (mkS m'):=by
 have hl':¬m0.left<=0:=by omega
 have hd':¬depth<=0:=by omega
 have d3:X.tdiv 3=X / 3:=tdN hX0;have w3:=qF (X.tdiv 3) (by omega);have d36:X.tdiv 36=X / 36:=tdN hX0;have w36:=qF (X.tdiv 36) (by omega);have d12:(X.tdiv 3).tmod 12=(X.tdiv 3) % 12:=tmN (by omega);have k0:(X.tdiv 3).tmod 12≠0:=by omega
 have k1:(X.tdiv 3).tmod 12≠1:=by omega
 have k2:(X.tdiv 3).tmod 12≠2:=by omega
 have k3:(X.tdiv 3).tmod 12≠3:=by omega
 have k4:(X.tdiv 3).tmod 12≠4:=by omega
 have k5:(X.tdiv 3).tmod 12≠5:=by omega
 have k6:(X.tdiv 3).tmod 12≠6:=by omega
 have k7:(X.tdiv 3).tmod 12≠7:=by omega
 have k8:(X.tdiv 3).tmod 12≠8:=by omega
 by_cases hF0:F=[]
 .subst hF0;refine zK func37 rfl sQ (rs:=[.cell 8 15 true]) (by kernel_rfl) ?_
  simp only[rK]
  simp[mkS,mkB,zF];refine mr hnum [0,1] (by simp[mkS,mkB]) ?_;simp[mkS,mkB];refine mu hfit (by simp[zF]) ?_;simp[mkS,mkB,hl',hd',w3,w36,k0,k1,k2,k3,k4,k5,k6,k7,k8];refine mr hop [0,1] (by simp[mkS,mkB,zF]) ?_;simp[mkS,mkB,zG];exact mv [0,1] 0 (by rfl) (by simp[zG])
 .have hc:=hc.resolve_left hF0;have hFl:0<F.length:=by cases F with
   |nil=>exact(hF0 rfl).elim
   |cons=>simp
  refine zK func37 rfl sQ (rs:=[.cell 8 15 true]) (by kernel_rfl) ?_
  simp only[rK]
  simp[mkS,mkB,zF];refine mr hnum [0,1] (by simp[mkS,mkB]) ?_;simp[mkS,mkB];refine mu hfit (by simp[zF]) ?_;simp[mkS,mkB,hl',hd',hF0,hFl,hc,w3,w36,k0,k1,k2,k3,k4,k5,k6,k7,k8];intro _;refine mr hop [0,1] (by simp[mkS,mkB,zF]) ?_;simp[mkS,mkB,zG];exact mv [0,1] 0 (by rfl) (by simp[zG])
theorem zBL{N:Int}{G:FuncId}(hN:N=3/\G=zMV\/N=4/\G=zMV\/N=5/\G=zSo\/N=6/\G=zRD\/N=7/\G=zRD)(hd1 : -1000<=depth)(hd2:depth<=1000)(hX0:0<=X)(hX1:X<65536)(hF:F.length<=1000)(hE0:0<env.length)(hE:env.length<=1000)
 (hnum:my zKY [.ptr 0 0,int 65536] (mkS m) (int X) (mkS m0))(hfit:my zKo [.sl env.length (z6 env),.agg (zF t)] [] (.sl F.length (z6 F)) [])(hleft:0<m0.left)(hd:0<depth)(hc:F=[]\/X.tmod 3≠0)(hk:(X.tdiv 3).tmod 12=N)(hop:my G [.ptr 0 0,.agg (zF t),.sl env.length (z6 env),int (X.tdiv 36),int depth] (mkS m0) (.agg (zG e)) (mkS m')) :
 my bG [.ptr 0 0,.agg (zF t),.sl env.length (z6 env),int depth] (mkS m) (.agg (zG e)) (mkS m'):=by
 have hl':¬m0.left<=0:=by omega
 have hd':¬depth<=0:=by omega
 have d3:X.tdiv 3=X / 3:=tdN hX0;have w3:=qF (X.tdiv 3) (by omega);have d36:X.tdiv 36=X / 36:=tdN hX0;have w36:=qF (X.tdiv 36) (by omega);have d12:(X.tdiv 3).tmod 12=(X.tdiv 3) % 12:=tmN (by omega);by_cases hF0:F=[]
 .subst hF0;rcases hN with ⟨rfl,rfl⟩|⟨rfl,rfl⟩|⟨rfl,rfl⟩|⟨rfl,rfl⟩|⟨rfl,rfl⟩
  all_goals
   refine zK func37 rfl sQ (rs:=[.cell 8 15 true]) (by kernel_rfl) ?_
   simp only[rK]
   simp[mkS,mkB,zF];refine mr hnum [0,1] (by simp[mkS,mkB]) ?_;simp[mkS,mkB];refine mu hfit (by simp[zF]) ?_;simp[mkS,mkB,hl',hd',w3,w36,hk];refine mr hop [0,1] (by simp[mkS,mkB,zF]) ?_;simp[mkS,mkB,zG];exact mv [0,1] 0 (by rfl) (by simp[zG])
 .have hc:=hc.resolve_left hF0;have hFl:0<F.length:=by cases F with
   |nil=>exact(hF0 rfl).elim
   |cons=>simp
  rcases hN with ⟨rfl,rfl⟩|⟨rfl,rfl⟩|⟨rfl,rfl⟩|⟨rfl,rfl⟩|⟨rfl,rfl⟩
  all_goals
   refine zK func37 rfl sQ (rs:=[.cell 8 15 true]) (by kernel_rfl) ?_
   simp only[rK]
   simp[mkS,mkB,zF];refine mr hnum [0,1] (by simp[mkS,mkB]) ?_;simp[mkS,mkB];refine mu hfit (by simp[zF]) ?_;simp[mkS,mkB,hl',hd',hF0,hFl,hc,w3,w36,hk];intro _;refine mr hop [0,1] (by simp[mkS,mkB,zF]) ?_;simp[mkS,mkB,zG];exact mv [0,1] 0 (by rfl) (by simp[zG])
variable{m1 m2 m3:Mk}
theorem qF6{N:Int}(hN:N=0\/N=1)(hd1 : -1000<=depth)(hd2:depth<=1000)(hX0:0<=X)(hX1:X<65536)(hF:F.length<=1000)(hE0:0<env.length)(hE:env.length<=1000)
 (hnum:my zKY [.ptr 0 0,int 65536] (mkS m) (int X) (mkS m0))(hfit:my zKo [.sl env.length (z6 env),.agg (zF t)] [] (.sl F.length (z6 F)) [])(hleft:0<m0.left)(hd:0<depth)(hc:F=[]\/X.tmod 3≠0)(hk:(X.tdiv 3).tmod 12=N){c:Exp}(ga:my bG [.ptr 0 0,.agg (zF j9),.sl env.length (z6 env),int (depth-1)] (mkS m0) (.agg (zG a)) (mkS m1))(gb:my bG [.ptr 0 0,.agg (zF t),.sl env.length (z6 env),int (depth-1)] (mkS m1) (.agg (zG b)) (mkS m2))(gc:my bG [.ptr 0 0,.agg (zF t),.sl env.length (z6 env),int (depth-1)] (mkS m2) (.agg (zG c)) (mkS m3))(hln:Lim m3 1) :
 my bG [.ptr 0 0,.agg (zF t),.sl env.length (z6 env),int depth] (mkS m) (.agg (zG (.mk ⟨0,0,m3.temp⟩ 5 0 Id.zero Typ.zero [a,b,c] []))) (mkS {m3 with temp:=m3.temp+1,left:=m3.left-1}):=by
 have hl':¬m0.left<=0:=by omega
 have hd':¬depth<=0:=by omega
 have d3:X.tdiv 3=X / 3:=tdN hX0;have w3:=qF (X.tdiv 3) (by omega);have d36:X.tdiv 36=X / 36:=tdN hX0;have w36:=qF (X.tdiv 36) (by omega);have d12:(X.tdiv 3).tmod 12=(X.tdiv 3) % 12:=tmN (by omega);have wd:=qF (depth-1) (by omega);obtain⟨l1,l2,l3,l4,l5,l6,l7,l8⟩:=hln;by_cases hF0:F=[]
 .subst hF0;rcases hN with rfl|rfl
  all_goals
   refine zK func37 rfl sQ (rs:=[.cell 8 15 true]) (by kernel_rfl) ?_
   simp only[rK]
   simp[mkS,mkB,zF];refine mr hnum [0,1] (by simp[mkS,mkB]) ?_;simp[mkS,mkB];refine mu hfit (by simp[zF]) ?_;simp[mkS,mkB,hl',hd',w3,w36,hk,wd];refine mr ga [0,1] (by simp[mkS,mkB,zF]) ?_;simp[mkS,mkB,zF,wd];refine mr gb [0,1] (by simp[mkS,mkB,zF]) ?_;simp[mkS,mkB,zF,wd];refine bZ gc [0,1] (by decide) (by simp[mkS,mkB]) (by simp[zF]) (by decide) (by simp) (by simp[mkS]) ?_;simp[mkS,mkB];refine dQ (aO m3 5 0 [a,b,c] l3 (by omega) (by omega) l6) [0,1] (by decide) (by simp[mkS,mkB]) (by simp[zL,zG]) ?_;simp[mkS,mkB,zG,zL];exact mv [0,1] 0 (by rfl) (by simp[zG,zL])
 .have hc:=hc.resolve_left hF0;have hFl:0<F.length:=by cases F with
   |nil=>exact(hF0 rfl).elim
   |cons=>simp
  rcases hN with rfl|rfl
  all_goals
   refine zK func37 rfl sQ (rs:=[.cell 8 15 true]) (by kernel_rfl) ?_
   simp only[rK]
   simp[mkS,mkB,zF];refine mr hnum [0,1] (by simp[mkS,mkB]) ?_;simp[mkS,mkB];refine mu hfit (by simp[zF]) ?_;simp[mkS,mkB,hl',hd',hF0,hFl,hc,w3,w36,hk,wd];intro _;refine mr ga [0,1] (by simp[mkS,mkB,zF]) ?_;simp[mkS,mkB,zF,wd];refine mr gb [0,1] (by simp[mkS,mkB,zF]) ?_;simp[mkS,mkB,zF,wd];refine bZ gc [0,1] (by decide) (by simp[mkS,mkB]) (by simp[zF]) (by decide) (by simp) (by simp[mkS]) ?_;simp[mkS,mkB];refine dQ (aO m3 5 0 [a,b,c] l3 (by omega) (by omega) l6) [0,1] (by decide) (by simp[mkS,mkB]) (by simp[zL,zG]) ?_;simp[mkS,mkB,zG,zL];exact mv [0,1] 0 (by rfl) (by simp[zG,zL])
@[simp]theorem qBP{U:St}:oW 2002 U = U:=rfl
variable{s:ByteArray}
theorem eQ:yJ [s]=[.lit (.string s)]:=rfl
variable{s':ByteArray}
theorem eU:yJ [s,s']=[.lit (.string s),.lit (.string s')]:=rfl
abbrev zSR:FuncId:=90
theorem zZg(hd1 : -1000<=depth)(hd2:depth<=1000)(hX0:0<=X)(hX1:X<65536)(hF:F.length<=1000)(hE0:0<env.length)(hE:env.length<=1000)
 (hnum:my zKY [.ptr 0 0,int 65536] (mkS m) (int X) (mkS m0))(hfit:my zKo [.sl env.length (z6 env),.agg (zF t)] [] (.sl F.length (z6 F)) [])(hleft:0<m0.left)(hd:0<depth)(hc:F=[]\/X.tmod 3≠0)(hk:(X.tdiv 3).tmod 12=2){j:Nat}(hj:j<env.length)(e1:(X.tdiv 36).tmod (env.length:Int)=j){m4:Mk}(ga:my bG [.ptr 0 0,.agg (zF env[j].typ),.sl env.length (z6 env),int (depth-1)] (mkS m0) (.agg (zG a)) (mkS m1))(hln:Lim m1 1)(hm2:m2={m1 with temp:=m1.temp+1,left:=m1.left-1})
 (gn:my zSR [.ptr 0 0] (mkS m2) (.lit (.string s)) (mkS m3))(gb:my bG [.ptr 0 0,.agg (zF t),.sl (env.length+1) (z6 (env++[⟨⟨0,0,m1.temp⟩,0,env[j].typ⟩])),int (depth-1)] (mkS m3) (.agg (zG b)) (mkS m4)) :
 my bG [.ptr 0 0,.agg (zF t),.sl env.length (z6 env),int depth] (mkS m) (.agg (zG (.mk ⟨0,0,m1.temp⟩ 6 0 Id.zero Typ.zero [a,b] [s]))) (mkS m4):=by
 have hl':¬m0.left<=0:=by omega
 have hd':¬depth<=0:=by omega
 have d3:X.tdiv 3=X / 3:=tdN hX0;have w3:=qF (X.tdiv 3) (by omega);have d36:X.tdiv 36=X / 36:=tdN hX0;have w36:=qF (X.tdiv 36) (by omega);have d12:(X.tdiv 3).tmod 12=(X.tdiv 3) % 12:=tmN (by omega);have wd:=qF (depth-1) (by omega);obtain⟨l1,l2,l3,l4,l5,l6,l7,l8⟩:=hln;have hdr:=iD hj;have hdr4:List.drop (j*9+4) (z6 env)=(cQ env[j]++z6 (env.drop (j+1))).drop 4:=by rw[<-jAu,hdr]
 have hb4:j*9+4+5<=env.length*9:=by omega
 have hne:¬((env.length:Int)=0):=by omega
 have hnil:env≠[]:=fun e=>by rw[e]at hE0;simp at hE0
 have hnode:=aO m1 6 0 [] l3 (by omega) (by omega) l6;rw[<-hm2]at hnode;rcases hc with hc|hc
 .subst hc;refine zK func37 rfl sQ (rs:=[.cell 8 15 true]) (by kernel_rfl) ?_
  simp only[rK]
  simp[mkS,mkB,zF];refine mr hnum [0,1] (by simp[mkS,mkB]) ?_;simp[mkS,mkB];refine mu hfit (by simp[zF]) ?_;simp[mkS,mkB,hl',hd',w3,w36,hk,wd,e1,hne,hnil,hj,hdr4,hb4,cQ];intro _;refine mr ga [0,1] (by simp[mkS,mkB,zF]) ?_;simp[mkS,mkB];refine mr hnode [0,1] (by simp[mkS,mkB]) ?_;simp[mkS,mkB,zG];refine mr gn [0,1] (by simp[mkS,mkB]) ?_;simp[mkS,mkB];refine qC (mI env ⟨⟨0,0,m1.temp⟩,0,env[j].typ⟩ (by omega)) (by simp[cQ]) (by simp) ?_;simp[mkS,mkB,wd];refine bZ gb [0,1] (by decide) (by simp[mkS,mkB]) (by simp[zF]) (by decide) (by simp) (by simp[mkS]) ?_;simp[mkS,mkB];exact mv [0,1] 0 (by rfl) (by simp[zG,zL,eQ,eU])
 .by_cases hF0:F=[]
  .subst hF0;refine zK func37 rfl sQ (rs:=[.cell 8 15 true]) (by kernel_rfl) ?_
   simp only[rK]
   simp[mkS,mkB,zF];refine mr hnum [0,1] (by simp[mkS,mkB]) ?_;simp[mkS,mkB];refine mu hfit (by simp[zF]) ?_;simp[mkS,mkB,hl',hd',w3,w36,hk,wd,e1,hne,hnil,hj,hdr4,hb4,cQ];intro _;refine mr ga [0,1] (by simp[mkS,mkB,zF]) ?_;simp[mkS,mkB];refine mr hnode [0,1] (by simp[mkS,mkB]) ?_;simp[mkS,mkB,zG];refine mr gn [0,1] (by simp[mkS,mkB]) ?_;simp[mkS,mkB];refine qC (mI env ⟨⟨0,0,m1.temp⟩,0,env[j].typ⟩ (by omega)) (by simp[cQ]) (by simp) ?_;simp[mkS,mkB,wd];refine bZ gb [0,1] (by decide) (by simp[mkS,mkB]) (by simp[zF]) (by decide) (by simp) (by simp[mkS]) ?_;simp[mkS,mkB];exact mv [0,1] 0 (by rfl) (by simp[zG,zL,eQ,eU])
  .have hFl:0<F.length:=by cases F with
    |nil=>exact(hF0 rfl).elim
    |cons=>simp
   refine zK func37 rfl sQ (rs:=[.cell 8 15 true]) (by kernel_rfl) ?_
   simp only[rK]
   simp[mkS,mkB,zF];refine mr hnum [0,1] (by simp[mkS,mkB]) ?_;simp[mkS,mkB];refine mu hfit (by simp[zF]) ?_;simp[mkS,mkB,hl',hd',hF0,hFl,hc,w3,w36,hk,wd,e1,hne,hnil,hj,hdr4,hb4,cQ];intro _;intro _;refine mr ga [0,1] (by simp[mkS,mkB,zF]) ?_;simp[mkS,mkB];refine mr hnode [0,1] (by simp[mkS,mkB]) ?_;simp[mkS,mkB,zG];refine mr gn [0,1] (by simp[mkS,mkB]) ?_;simp[mkS,mkB];refine qC (mI env ⟨⟨0,0,m1.temp⟩,0,env[j].typ⟩ (by omega)) (by simp[cQ]) (by simp) ?_;simp[mkS,mkB,wd];refine bZ gb [0,1] (by decide) (by simp[mkS,mkB]) (by simp[zF]) (by decide) (by simp) (by simp[mkS]) ?_;simp[mkS,mkB];exact mv [0,1] 0 (by rfl) (by simp[zG,zL,eQ,eU])
theorem zUM(hd1 : -1000<=depth)(hd2:depth<=1000)(hX0:0<=X)(hX1:X<65536)(hF:F.length<=1000)(hE0:0<env.length)(hE:env.length<=1000)
 (hnum:my zKY [.ptr 0 0,int 65536] (mkS m) (int X) (mkS m0))(hfit:my zKo [.sl env.length (z6 env),.agg (zF t)] [] (.sl F.length (z6 F)) [])(hleft:0<m0.left)(hd:0<depth)(hc:F=[]\/X.tmod 3≠0)(hk:(X.tdiv 3).tmod 12=8){c:Exp}{m4 m5 m6:Mk}(ga:my bG [.ptr 0 0,.agg (zF (jX jT)),.sl env.length (z6 env),int (depth-1)] (mkS m0) (.agg (zG a)) (mkS m1))(gb:my bG [.ptr 0 0,.agg (zF t),.sl env.length (z6 env),int (depth-1)] (mkS m1) (.agg (zG b)) (mkS m2))(hln:Lim m2 1)(hm3:m3={m2 with temp:=m2.temp+1,left:=m2.left-1})
 (gn:my zSR [.ptr 0 0] (mkS m3) (.lit (.string s)) (mkS m4))(gn':my zSR [.ptr 0 0] (mkS m4) (.lit (.string s')) (mkS m5))(gc:my bG [.ptr 0 0,.agg (zF t),.sl (env.length+1+1) (z6 (env++[⟨⟨0,0,m2.temp⟩,0,jT⟩]++[⟨⟨0,0,m2.temp⟩,1,t⟩])),int (depth-1)] (mkS m5) (.agg (zG c)) (mkS m6)) :
 my bG [.ptr 0 0,.agg (zF t),.sl env.length (z6 env),int depth] (mkS m) (.agg (zG (.mk ⟨0,0,m2.temp⟩ 12 0 Id.zero Typ.zero [a,b,c] [s,s']))) (mkS m6):=by
 have hl':¬m0.left<=0:=by omega
 have hd':¬depth<=0:=by omega
 have d3:X.tdiv 3=X / 3:=tdN hX0;have w3:=qF (X.tdiv 3) (by omega);have d36:X.tdiv 36=X / 36:=tdN hX0;have w36:=qF (X.tdiv 36) (by omega);have d12:(X.tdiv 3).tmod 12=(X.tdiv 3) % 12:=tmN (by omega);have wd:=qF (depth-1) (by omega);obtain⟨l1,l2,l3,l4,l5,l6,l7,l8⟩:=hln;have hnode:=aO m2 12 0 [] l3 (by omega) (by omega) l6;rw[<-hm3]at hnode;rcases hc with hc|hc
 .subst hc;refine zK func37 rfl sQ (rs:=[.cell 8 15 true]) (by kernel_rfl) ?_
  simp only[rK]
  simp[mkS,mkB,zF];refine mr hnum [0,1] (by simp[mkS,mkB]) ?_;simp[mkS,mkB];refine mu hfit (by simp[zF]) ?_;simp[mkS,mkB,hl',hd',w3,w36,hk,wd];refine mu zFF (by simp[zF,jT]) ?_;simp[mkS,mkB,wd];refine mr ga [0,1] (by simp[mkS,mkB,zF]) ?_;simp[mkS,mkB,zF,wd];refine mr gb [0,1] (by simp[mkS,mkB,zF]) ?_;simp[mkS,mkB];refine mr hnode [0,1] (by simp[mkS,mkB]) ?_;simp[mkS,mkB,zG];refine mr gn [0,1] (by simp[mkS,mkB]) ?_;simp[mkS,mkB];refine mr gn' [0,1] (by simp[mkS,mkB]) ?_;simp[mkS,mkB];refine qC (mI env ⟨⟨0,0,m2.temp⟩,0,jT⟩ (by omega)) (by simp[cQ,jT,Id.zero]) (by simp) ?_;simp[mkS,mkB,zF];refine qC (mI (env++[⟨⟨0,0,m2.temp⟩,0,jT⟩]) ⟨⟨0,0,m2.temp⟩,1,t⟩ (by simp;omega)) (by simp[cQ]) (by simp) ?_;simp[mkS,mkB,zF,wd];refine bZ gc [0,1] (by decide) (by simp[mkS,mkB]) (by simp[zF]) (by decide) (by simp) (by simp[mkS]) ?_;simp[mkS,mkB];exact mv [0,1] 0 (by rfl) (by simp[zG,zL,eQ,eU])
 .by_cases hF0:F=[]
  .subst hF0;refine zK func37 rfl sQ (rs:=[.cell 8 15 true]) (by kernel_rfl) ?_
   simp only[rK]
   simp[mkS,mkB,zF];refine mr hnum [0,1] (by simp[mkS,mkB]) ?_;simp[mkS,mkB];refine mu hfit (by simp[zF]) ?_;simp[mkS,mkB,hl',hd',w3,w36,hk,wd];refine mu zFF (by simp[zF,jT]) ?_;simp[mkS,mkB,wd];refine mr ga [0,1] (by simp[mkS,mkB,zF]) ?_;simp[mkS,mkB,zF,wd];refine mr gb [0,1] (by simp[mkS,mkB,zF]) ?_;simp[mkS,mkB];refine mr hnode [0,1] (by simp[mkS,mkB]) ?_;simp[mkS,mkB,zG];refine mr gn [0,1] (by simp[mkS,mkB]) ?_;simp[mkS,mkB];refine mr gn' [0,1] (by simp[mkS,mkB]) ?_;simp[mkS,mkB];refine qC (mI env ⟨⟨0,0,m2.temp⟩,0,jT⟩ (by omega)) (by simp[cQ,jT,Id.zero]) (by simp) ?_;simp[mkS,mkB,zF];refine qC (mI (env++[⟨⟨0,0,m2.temp⟩,0,jT⟩]) ⟨⟨0,0,m2.temp⟩,1,t⟩ (by simp;omega)) (by simp[cQ]) (by simp) ?_;simp[mkS,mkB,zF,wd];refine bZ gc [0,1] (by decide) (by simp[mkS,mkB]) (by simp[zF]) (by decide) (by simp) (by simp[mkS]) ?_;simp[mkS,mkB];exact mv [0,1] 0 (by rfl) (by simp[zG,zL,eQ,eU])
  .have hFl:0<F.length:=by cases F with
    |nil=>exact(hF0 rfl).elim
    |cons=>simp
   refine zK func37 rfl sQ (rs:=[.cell 8 15 true]) (by kernel_rfl) ?_
   simp only[rK]
   simp[mkS,mkB,zF];refine mr hnum [0,1] (by simp[mkS,mkB]) ?_;simp[mkS,mkB];refine mu hfit (by simp[zF]) ?_;simp[mkS,mkB,hl',hd',hF0,hFl,hc,w3,w36,hk,wd];intro _;refine mu zFF (by simp[zF,jT]) ?_;simp[mkS,mkB,wd];refine mr ga [0,1] (by simp[mkS,mkB,zF]) ?_;simp[mkS,mkB,zF,wd];refine mr gb [0,1] (by simp[mkS,mkB,zF]) ?_;simp[mkS,mkB];refine mr hnode [0,1] (by simp[mkS,mkB]) ?_;simp[mkS,mkB,zG];refine mr gn [0,1] (by simp[mkS,mkB]) ?_;simp[mkS,mkB];refine mr gn' [0,1] (by simp[mkS,mkB]) ?_;simp[mkS,mkB];refine qC (mI env ⟨⟨0,0,m2.temp⟩,0,jT⟩ (by omega)) (by simp[cQ,jT,Id.zero]) (by simp) ?_;simp[mkS,mkB,zF];refine qC (mI (env++[⟨⟨0,0,m2.temp⟩,0,jT⟩]) ⟨⟨0,0,m2.temp⟩,1,t⟩ (by simp;omega)) (by simp[cQ]) (by simp) ?_;simp[mkS,mkB,zF,wd];refine bZ gc [0,1] (by decide) (by simp[mkS,mkB]) (by simp[zF]) (by decide) (by simp) (by simp[mkS]) ?_;simp[mkS,mkB];exact mv [0,1] 0 (by rfl) (by simp[zG,zL,eQ,eU])
end Go.Proofs.YtolkhapmieigcaaGreatDoor
