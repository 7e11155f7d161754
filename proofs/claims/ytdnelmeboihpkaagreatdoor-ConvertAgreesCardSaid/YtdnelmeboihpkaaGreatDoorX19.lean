/- convert.paths and Paths. -/
import Derived.Test.YtdnelmeboihpkaaGreatDoorX18
set_option linter.unusedVariables false
set_option maxHeartbeats 8000000
set_option maxRecDepth 100000
set_option linter.unusedSimpArgs false
open Go.Proofs.Tryz
namespace Go.Proofs.YtdnelmeboihpkaaGreatDoor
open Go.Abs
def jR(l:List wF):wE:=l.map fun q=>.sl q.length (zT q)
@[simp]theorem zWQ(l:List wF):(jR l).length=l.length:=by simp[jR]
@[simp]theorem zWR:jR []=[]:=rfl
theorem oC(a b:List wF):jR (a++b)=jR a++jR b:=by simp[jR]
theorem gW(q:wF)(l:List wF):jR (q::l)=.sl q.length (zT q)::jR l:=rfl
theorem pX:∀(l:List wF),qY (jR l)
 |[]=>qY.nil
 |q::l=>qY.sl (eO q) (pX l)
@[simp]theorem zVf(l:List wF):jT (jR l)=jR l:=(pX l).1
@[simp]theorem qAx{rf g}(l:List wF):vwL rf g (jR l)=jR l:=(pX l).2 _ _
@[simp]theorem zJi:∀(l:List wF) (k:Nat),eJ k (jR l)=true
 |[],_=>rfl
 |q::l,k=>by rw[gW];simp[zJi l k]
variable{i:Nat}
theorem eV{l:List wF}(h:i<l.length):(jR l).drop i=.sl l[i].length (zT l[i])::jR (l.drop (i+1)):=by rw[jR,<-List.map_drop,jAo h];rfl
@[simp]theorem zYi(l:List Md)(k:Nat):eJ k (qH l)=true:=(sO l).bnd k
@[simp]theorem zYh(l:wQ)(k:Nat):eJ k (z6 l)=true:=(sJ l).bnd k
@[simp]theorem qEi(d:Id)(k:Nat):eJ k (zK d)=true:=by simp[zK]
theorem zOI(p:Prg)(fro to:Id):mv 53 [.agg (zP p),.agg (zK fro),.agg (zK to)] [] (.clo 97 [] [.rptr (zP p),.rptr (zK fro),.rptr (zK to)]) []:=by
 refine ml [] [.slot 6] func53 (by kernel_rfl) ?_
 (conv in kq _ _=>cbv)
 simp[zP,zK];exact zA 1 (by simp)
@[simp]theorem zUh:zC prog 97=true:=by kernel_rfl
@[simp]theorem qIN:zC prog 99=true:=zUi
def yM(p:Prg)(fro to:Id):List wF:=yY (yA p) to (yA p).length fro [fro]
variable{p:Prg}{hs:wP}
theorem zEC(hf:Fit p hs):(yA p).length<=100:=by
 have h1:(yA p).length=(iF p).length:=by rw[<-m7 hf];exact(gQ _).length_eq
 have h2:=jDe yD p.defs;have h3:=hf.len8;unfold iF at h1;omega
theorem zMG(hf:Fit p hs)(fro to:Id):zNv prog 97 [] [.rptr (zP p),.rptr (zK fro),.rptr (zK to)] ((yM p fro to).map fun q=>[.sl q.length (zT q)]):=by
 refine vO fun b m T hT hY=>?_
 have h0:=hT 0 (jB4 _);have hn:=hT _ (jA _);have hP:=eP p;have hL:=zEC hf;have hm1:putI [fro.a,fro.b,fro.c] (.lit (.bool true)) []=mrk [fro]:=rfl;have hvis:=zPR (L:=yA p) (by omega) to b m T _ hT hY (yA p).length fro [fro] [] true 0 (zJK _) (by simp;omega) (by simp[yM]) (fun q hq hqx=>by simp[yM]);refine mg [15] [] [] [] func97 (by kernel_rfl) ?_
 (conv in kH _ _ _=>cbv)
 simp[h0.1,a8 h0.1,hP];refine mq (zR4 hf) (by simp[hP]) ?_;simp[h0.1,aR h0.1,a8 h0.1,cZ h0.1,zBZ h0.1,zK,hm1,jAq];have hw:=y7 (n0:=m) (env:=qV [(2,.rptr (zK fro)),(8,.ptr (m+5) 0)]) (l:=m+4) (o:=0) (U:=T 0++[AObj.box [yv b],.box [.sl (yA p).length (yW (yA p))],.mp true 3 (mrk [fro]),.box [.map (m+2)],.box [.nil],
  .box [.clo 99 [] [.rptr (zK to),.ptr m 0,.ptr (m+4) 0,.ptr (m+1) 0,.ptr (m+3) 0,.ptr (m+5) 0]]]) (by rw[aR h0.1];rfl) rfl 31 3
 rw[cZ h0.1,jAu,jA5,h0.1]at hw;refine⟨_,_,(zHC (c:=0) h0 rfl [0,1,2,3,4,5] 0 (by simp) (by decide) (by simp[zK]) (by simp[zK])).trans hw,?_⟩;simp[h0.1,aR h0.1,a8 h0.1];rw[jB1]at hvis;have hn':Cl m (T (yY (yA p) to (yA p).length fro [fro]).length):=by simpa[yM]using hn
 refine zRk h0 hn' hvis [0,1,2,3,4,5,6] (by decide) (by simp[zG1,nR,zK]) (by simp[zEk,zK]) ?_;simp;exact zIC hn' (by simp)
def eE(p:Prg)(fro to:Id):A:=if bQ p fro=true/\bQ p to=true then .tup [.sl (yM p fro to).length (jR (yM p fro to)),int 0]else .tup [.sl 0 [],int 6]
theorem zEm(hf:Fit p hs)(fro to:Id)(h64:(yM p fro to).length<=64):mv 20 [.agg (zP p),.agg (zK fro),.agg (zK to)] [] (eE p fro to) []:=by
 have hP:=eP p;refine ml [] [.cell 6 1 false,.cell 7 1 false] func20 (by kernel_rfl) ?_
 (conv in kq _ _=>cbv)
 simp[hP,zK];refine mq (zHH p fro) (by simp[hP,zK]) ?_;by_cases h1:bQ p fro=true
 .simp[h1];refine mq (zHH p to) (by simp[hP,zK]) ?_;by_cases h2:bQ p to=true
  .simp[h2];refine mq (zOI p fro to) (by simp[hP,zK]) ?_;simp;refine⟨[(6,.ptr 3 0),(7,.ptr 4 0),(8,.ptr 5 0),(23,.clo 97 [] [.rptr (zP p),.rptr (zK fro),.rptr (zK to)])],7,(yM p fro to).map (fun q=>[.sl q.length (zT q)]),
    fun j=>[.box (zP p),.box (zK fro),.box (zK to),.box [.sl 0 []],.box [int 0],.box [.row 6 j],.row false 28 1 j (jR ((yM p fro to).take j))],97,[],[.rptr (zP p),.rptr (zK fro),.rptr (zK to)],by simp[hP,zK],zUh,zMG hf fro to,?_,by omega,?_,by simp[hP,zK],by simp,?_,?_⟩
   .exact(y7 (l:=5) (o:=0) rfl rfl 28 1).trans (mu [0,1,2,3,4,5,6] 0 (by rfl) (by simp[hP,zK]))
   .intro i hi;simp[hP,zK]
   .intro i hi b' M r r';simp only[jAe]at hi;have htk:(yM p fro to).take (i+1)=(yM p fro to).take i++[(yM p fro to)[i]]:=jA6 hi;have hne:¬((i:Int)=64):=by omega
    simp[hne];exact⟨⟨by simp[maxLen];omega,by omega⟩,Wk.here (by rw[htk,oC];rfl)⟩
   .have htk:(yM p fro to).take (yM p fro to).length=yM p fro to:=jAt;simp[htk];exact zA 1 (by simp[eE,h1,h2])
  .have h2':bQ p to=false:=by simpa using h2
   simp[h2'];exact zA 0 (by simp[eE,h2'])
 .have h1':bQ p fro=false:=by simpa using h1
  simp[h1'];exact zA 0 (by simp[eE,h1'])
theorem zP7(x y:Id):mv 124 [.agg (zK x),.agg (zK y)] [] (bl (cC x y)) []:=by
 refine ml [] [.slot 4] func124 (by kernel_rfl) ?_
 (conv in kq _ _=>cbv)
 by_cases h1:x.a=y.a
 .by_cases h2:x.b=y.b
  all_goals
   simp[zK,h1,h2];exact zA 0 (by simp[cC,h1,h2])
 .simp[zK,h1];exact zA 0 (by simp[cC,h1])
theorem zKd(l:wF)(x:Id):mv 33 [.sl l.length (zT l),.agg (zK x)] [] (bl (decide (x∈l))) []:=by
 refine ml [] [.slot 4] func33 (by kernel_rfl) ?_
 (conv in kq _ _=>cbv)
 simp[zK];refine qK (S:=Nat) (fun i=>[(0,.sl l.length (zT l)),(3,.ptr 0 0),(5,int i)]) (fun s=>[.box (zK x)]) (fun i=>i<=l.length/\x∉l.take i) (fun i=>l.length-i) 0 (by simp)
  (mu [0] 0 (by rfl) (by simp[zK])) ?_
 rintro i ⟨hi,hn⟩;by_cases h:i<l.length
 .simp[h,yS h,zK];intro hl;refine qX (fun h'=>?_) (fun h'=>?_)<;>simp at h'<;>simp
  .have hx:l[i]=x:=h';exact zA 0 (by simp[<-hx])
  .have hx:l[i]≠x:=h';refine zO (i+1) ⟨h,?_⟩ (by omega) (mu [0] 0 (by rfl) (by simp[zK,z8 h hl]));rw[jA6 h];simp only[jAc,jAp,not_or];exact⟨hn,fun e=>hx e.symm⟩
 .have:i=l.length:=by omega
  subst this;simp;rw[jAt]at hn;exact fun _=>zA 0 (by simp[hn])
theorem zQa(a b:wF):mv 31 [.sl a.length (zT a),.sl b.length (zT b)] [] (bl (decide (a=b))) []:=by
 refine ml [] [.slot 4] func31 (by kernel_rfl) ?_
 (conv in kq _ _=>cbv)
 by_cases hab:a.length=b.length
 .have hab':(a.length:Int)=b.length:=by omega
  simp[hab];intro hlb;refine qK (S:=Nat) (fun i=>[(0,.sl a.length (zT a)),(1,.sl b.length (zT b)),(5,int i)]) (fun s=>[]) (fun i=>i<=a.length/\a.take i=b.take i) (fun i=>a.length-i) 0 (by simp)
   (mu [] 0 (by rfl) (by simp[hab])) ?_
  rintro i ⟨hi,hn⟩;by_cases h:i<a.length
  .have hb:i<b.length:=by omega
   simp[h,hb,yS h,yS hb];intro hl;refine qX (fun h'=>?_) (fun h'=>?_)<;>simp at h'<;>simp
   .have hx:a[i]≠b[i]:=fun e=>by rw[e]at h';simp at h'
    have hne:a≠b:=fun e=>hx (by subst e;rfl)
    exact zA 0 (by simp[hne])
   .have hx:a[i]=b[i]:=h';refine zO (i+1) ⟨h,?_⟩ (by omega) (mu [] 0 (by rfl) (by simp[z8 h hl]));rw[jA6 h,jA6 hb,hn,hx]
  .have:i=a.length:=by omega
   subst this;simp;have:a=b:=by rw[jAt,hab,jAt]at hn;exact hn
   exact fun _=>zA 0 (by simp[this])
 .have hne:a≠b:=fun e=>hab (by rw[e])
  have hab':¬(a.length:Int)=b.length:=by omega
  simp[hab'];exact fun _ _=>zA 0 (by simp[hne])
def i8(x:Id)(s:wF×Bool)(y:Id):wF×Bool:=((s.1++(if s.2=false/\cC y x=false then [x]else []))++(if y=x then []else [y]),s.2||!cC y x)
def zKi(x:Id)(s:wF×Bool):wF:=if s.2 then s.1 else s.1++[x]
theorem zKj(x:Id):∀(l:wF) (s:wF×Bool),(l.foldl (i8 x) s).1.length<=s.1.length+2*l.length
 |[],s=>by simp
 |y::l,s=>by
  have:=zKj x l (i8 x s y);have h2:(i8 x s y).1.length<=s.1.length+2:=by unfold i8;simp only[jA5];split<;>split<;>simp
  simp only[jBh,jAb];omega
theorem zCF(x:Id):∀(l:wF) (o:wF),x∉l->l.foldl (i8 x) (o,true)=(o++l,true)
 |[],o,_=>by simp
 |y::l,o,h=>by
  have hy:y≠x:=fun e=>h (by simp[e])
  have:=zCF x l (o++[y]) (fun e=>h (by simp[e]));simp only[jBh,i8,Bool.true_eq_false,false_and,if_false,if_neg hy,jBa,Bool.true_or,this,jAu,jCw]
theorem zNT(x:Id):∀(l:wF) (o:wF),SS l->zKi x (l.foldl (i8 x) (o,false))=o++nC l x
 |[],o,_=>by simp[zKi,nC]
 |y::l,o,h=>by
  obtain⟨h1,h2⟩:=jBq.1 h;by_cases hl:cC y x=true
  .have hy:y≠x:=fun e=>by subst e;simp[cC]at hl
   have:=zNT x l (o++[y]) h2;simp only[jBh,i8,hl,Bool.not_true,Bool.or_false,if_neg hy,nC,if_true];simp only[Bool.true_eq_false,and_false,if_false,jBa];rw[this];simp
  .have hl':cC y x=false:=by simpa using hl
   have hn:x∉l:=fun hx=>by have:=h1 x hx;rw[hl']at this;cases this
   simp only[jBh,i8,hl',Bool.not_false,Bool.or_true,and_self,if_true,nC,jAk,if_false];by_cases hy:y=x
   .subst hy;rw[zCF _ _ _ hn];simp[zKi]
   .rw[if_neg hy,if_neg hy,zCF _ _ _ hn];simp[zKi]
theorem zSr(l:wF)(x:Id)(hl6:l.length<=1000):mv 82 [.sl l.length (zT l),.agg (zK x)] [] (.sl (zKi x (l.foldl (i8 x) ([],false))).length (zT (zKi x (l.foldl (i8 x) ([],false))))) []:=by
 refine ml [] [.slot 4] func82 (by kernel_rfl) ?_
 (conv in kq _ _=>cbv)
 simp[zK];refine qK (S:=Nat) (fun i=>[(0,.sl l.length (zT l)),(3,.ptr 0 0),(5,.row 1 ((l.take i).foldl (i8 x) ([],false)).1.length),(6,bl ((l.take i).foldl (i8 x) ([],false)).2),(7,int i)]) (fun i=>[.box (zK x),.row false 31 3 ((l.take i).foldl (i8 x) ([],false)).1.length (zT ((l.take i).foldl (i8 x) ([],false)).1)]) (fun i=>i<=l.length) (fun i=>l.length-i) 0 (by simp)
  ((qS (t:=5) (by simp) 31 3).trans (mu [0,1] 0 (by rfl) (by simp[zK]))) ?_
 intro i hi;have hmx:l.length<=maxLen:=by simp[maxLen];omega
 have hsl:=zKj x (l.take i) ([],false);rw[jAs]at hsl;by_cases h:i<l.length
 .have hst:(l.take (i+1)).foldl (i8 x) ([],false)=i8 x ((l.take i).foldl (i8 x) ([],false)) l[i]:=by rw[jA6 h,jCe];rfl
  generalize (l.take i).foldl (i8 x) ([],false)=s at *
  obtain⟨o,d⟩:=s;simp only[jBe]at hsl;have hne:l≠[]:=fun e=>by rw[e]at h;simp at h
  have less:=zP7 l[i] x;cases d
  .cases hls:cC l[i] x
   .simp[h,yS h,zK,hne];intro _;refine z7 less (by simp[zK]) (by simp) ?_;by_cases hx:l[i]=x
    .simp[h,yS h,zK,hne,hx,eZ];refine⟨⟨by simp[maxLen];omega,by omega⟩,?_⟩;exact zO (i+1) h (by omega) (mu [0,1] 0 (by rfl) (by simp[zK,hst,i8,hx,eZ,yK,zT,z8 h hmx]))
    .simp[hls,h,yS h,zK,hne,hx];refine⟨⟨by simp[maxLen];omega,by omega⟩,?_⟩;refine⟨⟨by simp[maxLen];omega,by omega⟩,?_⟩;exact zO (i+1) h (by omega) (mu [0,1] 0 (by rfl) (by simp[zK,hst,i8,hx,hls,yK,zT,z8 h hmx]))
   .have hx:¬l[i]=x:=fun e=>by rw[e,eZ]at hls;cases hls
    simp[h,yS h,zK,hne];intro _;refine z7 less (by simp[zK]) (by simp) ?_;simp[hls,h,yS h,zK,hne,hx];refine⟨⟨by simp[maxLen];omega,by omega⟩,?_⟩;exact zO (i+1) h (by omega) (mu [0,1] 0 (by rfl) (by simp[zK,hst,i8,hx,hls,yK,zT,z8 h hmx]))
  .by_cases hx:l[i]=x
   .simp[h,yS h,zK,hne,hx];intro _;exact zO (i+1) h (by omega) (mu [0,1] 0 (by rfl) (by simp[zK,hst,i8,hx,yK,zT,z8 h hmx]))
   .simp[h,yS h,zK,hne,hx];intro _;refine⟨⟨by simp[maxLen];omega,by omega⟩,?_⟩;exact zO (i+1) h (by omega) (mu [0,1] 0 (by rfl) (by simp[zK,hst,i8,hx,yK,zT,z8 h hmx]))
 .have hie:i=l.length:=by omega
  subst hie;rw[jAt]at *
  generalize l.foldl (i8 x) ([],false)=s at *
  obtain⟨o,d⟩:=s;cases d
  .simp[zK];intro _;have hsl2:o.length<=2*l.length:=by simpa using hsl
   refine⟨⟨by simp[maxLen];omega,by omega⟩,?_⟩;exact zA 1 (by simp[zKi,yK,zT])
  .simp[zK];exact fun _=>zA 1 (by simp[zKi])
theorem zSs{l:wF}(h:SS l)(x:Id)(hl:l.length<=1000):mv 82 [.sl l.length (zT l),.agg (zK x)] [] (.sl (nC l x).length (zT (nC l x))) []:=by have:=zSr l x hl;rw[zNT x l [] h]at this;exact this
def zSj:Nat->Option wD:=fun|5=>k_ [1,1,1,0,1,1,1,1,0,0,0,0,302,303,0,0,0]|_=>none
def cvI(p:Prg)(i:Nat):wF:=(((p.defs.take i).filter fun d=>(aF p d.id).isSome).map (·.id)).foldl nC []
theorem zRv(p:Prg)(i:Nat):SS (cvI p i):=zEL List.Pairwise.nil
theorem zNC(p:Prg)(i:Nat):(cvI p i).length<=i:=by have h1:=zN4 (((p.defs.take i).filter fun d=>(aF p d.id).isSome).map (·.id)) [];have h2:=jCn (fun d=>(aF p d.id).isSome) (p.defs.take i);simp only[jAe,jAs,jBe]at h1 h2;unfold cvI;omega
theorem zNB(p:Prg):cvI p p.defs.length=yO p:=by
 refine(zRv p _).unique (zIH _) fun x=>?_
 unfold cvI yO;rw[zC8,zFJ,jAt];simp
theorem zRw(p:Prg)(h:i<p.defs.length):cvI p (i+1)=if (aF p p.defs[i].id).isSome then nC (cvI p i) p.defs[i].id else cvI p i:=by
 unfold cvI;rw[jA6 h,jD7,jBs,jCe];by_cases hs:(aF p p.defs[i].id).isSome=true
 .simp[List.filter,hs]
 .simp[List.filter,hs]
theorem zRu(p:Prg)(hp:p.defs.length<=100):mv 35 [.agg (zP p)] [] (.sl (yO p).length (zT (yO p))) []:=by
 have hP:=eP p;refine mh zSj [16] [] [] [.slot 2] func35 (by kernel_rfl) ?_
 (conv in kH _ _ _=>cbv)
 simp[hP];refine qK (S:=Nat) (fun i=>[(1,.ptr 0 0),(3,.sl (cvI p i).length (zT (cvI p i))),(4,int i)]) (fun i=>[.box (zP p)]) (fun i=>i<=p.defs.length) (fun i=>p.defs.length-i) 0 (by simp)
  (mu [0] 0 (by rfl) (by simp[hP,cvI,zT])) ?_
 intro i hi;by_cases h:i<p.defs.length
 .have hl:=zNC p i;have hs:=zRw p h;have hd:=yG h;have hne:p.defs≠[]:=fun e=>by rw[e]at h;simp at h
  have hw:=z8 h (show p.defs.length<=maxLen by simp[maxLen];omega);have hle:=zKq p (by omega) p.defs[i].id;have hins:=zSs (zRv p i) p.defs[i].id (by omega);simp[hP,h];intro _;refine⟨_,_,aX 3,?_⟩;simp[List.replicate,h,hd,hne,zJ];refine yX hle (by simp[hP,zK]) (by simp[eC,zB]) ?_;cases hv:aF p p.defs[i].id with
  |none =>
   rw[hv]at hs;simp[eC,zB];exact zO (i+1) h (by omega) (mu [0] 0 (by rfl) (by simp[hP,hs,hw]))
  |some ab =>
   rw[hv]at hs;simp[eC,zB,h,hd,hne,zJ];refine mq hins (by simp[zK]) ?_;simp;exact zO (i+1) h (by omega) (mu [0] 0 (by rfl) (by simp[hP,hs,hw]))
 .have hie:i=p.defs.length:=by omega
  subst hie;simp[hP];rw[zNB]
  first|exact fun _=>zA 0 (by simp)|exact zA 0 (by simp)
def zLw:K:=(G [D 29 6 13,L 30 29 1,kN 31 30,kMi 32 0] (K.block 0 (K.loop (G [kB 33 32 31 .lss] (Z (Y 33 ks (K.exit 0)) (Z (K.block 1 (G [kX 34 30 32 15,J 35 34 15,kZ 9 kz1,S 9 35 15] (Z (K.dops [(0,0,D 36 6 3),(1,0,L 37 36 1),(2,0,kQi 38 37 8 false),(3,0,M 39 38),(4,0,T 39 true (D 40 9 3)),(5,0,T 39 true (L 41 40 1)),(6,0,T 39 true (kQi 42 41 2 false)),(7,0,kPf 43 39 42),(8,0,M 44 43),(9,0,T 44 true (D 45 9 5)),(10,0,T 44 true (J 46 45 3)),(11,0,T 44 true (D 47 2 8)),(12,0,T 44 true (L 48 47 1)),(13,0,T 44 true (kXi 49 48 11 0)),(14,0,T 44 true (D 50 49 0)),(15,0,T 44 true (J 51 50 3)),(16,0,⟨some (44,true),.eqs (some 52) false [.i,.i,.i] (kt 46) (kt 51)⟩),(17,0,kPf 53 44 52),(18,0,M 10 53)]) (Z (G [M 54 10] (Y 54 (K.ops [L 55 4 1,D 56 6 4,L 57 56 1,⟨none,.mop none (.set 1) [(kt 55),(kt 57),(.const (.bool true))]⟩]) ks)) (K.ops [L 58 5 1,J 59 9 15,M 60 10,⟨none,.call (some 61) (kt 58) [(kt 59),(kt 60)]⟩]))))) (K.ops [kBi 62 32 1 .add,M 32 62])))))))
def zWc:K:=G [kO 6 0] (Z (Z (K.dops [(0,0,D 11 6 3),(1,0,L 12 11 1),(2,0,kQi 13 12 2 false),(3,0,M 14 13),(4,0,T 14 true (D 15 6 5)),(5,0,T 14 true (J 16 15 3)),(6,0,T 14 true (D 17 2 8)),(7,0,T 14 true (L 18 17 1)),(8,0,T 14 true (kXi 19 18 11 0)),(9,0,T 14 true (D 20 19 0)),(10,0,T 14 true (J 21 20 3)),(11,0,⟨some (14,true),.eqs (some 22) false [.i,.i,.i] (kt 16) (kt 21)⟩),(12,0,kPf 23 14 22)]) (Y 23 (K.ops [L 24 3 1,M 25 24,T 25 false (M 26 1),T 25 false (kR 27 26),kPt 28 25 27,S 3 28 1]) ks)) (K.wk zLw))
theorem qE9:kw f58 zWc:=my (by kernel_rfl)
def mki(l:wB):List (wB×A):=l.map fun x=>([x],.lit (.bool true))
def adI(l:wB)(x:Int):wB:=if x∈l then l else l++[x]
theorem zTT{l:wB}{x y:Int}:y∈adI l x↔y∈l\/y=x:=by
 unfold adI;split
 .rename_i h;exact⟨.inl,fun hh=>hh.elim id fun e=>e▸h⟩
 .simp
theorem zIZ{y:Int}:∀(m l:wB),y∈m.foldl adI l↔y∈l\/y∈m
 |[],l=>by simp
 |x::m,l=>by rw[jBh,zIZ m,zTT,jA3];exact or_assoc
theorem zOe(x:Int):∀l:wB,Go.Abs.putI [x] (.lit (.bool true)) (mki l)=mki (adI l x)
 |[]=>rfl
 |y::l=>by
  have ih:=zOe x l;simp only[mki,jAg,Go.Abs.putI]at ih ⊢;by_cases h:y=x
  .subst h;simp[adI]
  .have h':¬[y]=[x]:=fun e=>h (by simpa using e)
   have h2:¬x=y:=fun e=>h e.symm
   rw[if_neg h',ih];unfold adI;by_cases hx:x∈l
   .simp[hx]
   .simp[hx,h2]
theorem zK0(x:Int):∀l:wB,fU [x] (mki l)=if x∈l then some (.lit (.bool true))else none
 |[]=>rfl
 |y::l=>by
  have ih:=zK0 x l;simp only[mki,jAg,fU]at ih ⊢;by_cases h:y=x
  .subst h;simp
  .have h':¬[y]=[x]:=fun e=>h (by simpa using e)
   have h2:¬x=y:=fun e=>h e.symm
   rw[if_neg h',ih];simp[h2]
theorem zUX(x:Int)(l:wB):s7 (Value.bool false) false (fU [x] (mki l))=.lit (.bool (decide (x∈l))):=by rw[zK0];split<;>rename_i h<;>simp[s7,h,jN,tN]
@[simp]theorem qN5{rf g}(l:wB):(mki l).map (fun p=>(p.1,vw rf g p.2))=mki l:=by unfold mki;rw[jCg];rfl
def fvS(D:wE)(w:Bool)(l:wB):St:=[.box [bl w],.box [.map 2],.mp false 1 (mki l),.box [.clo 58 [] [.rptr D,.ptr 0 0,.ptr 1 0,.ptr 3 0]]]
def fvA(D:wE)(e:Exp)(f:Bool):wE:=[.agg (zI e),bl f,.rptr D,.ptr 0 0,.ptr 1 0,.ptr 3 0]
def zQw(D:wE)(s:Id)(e:Exp):Prop:=∀(f w:Bool) (l:wB),mv 58 (fvA D e f) (fvS D w l) (.tup []) (fvS D (w||rG s e f) ((zCH s e).foldl adI l))
theorem zNp(s:Id)(e:Exp)(f:Bool):rG s e f=((decide (e.k=2)&&decide (e.ref=s)&&!f)||iU s (decide (e.k=8)) e.kids):=by cases e;rfl
theorem zSC(s:Id)(e:Exp):zCH s e=zAK s (decide (e.k=8)) e.n e.kids:=by cases e;rfl
theorem zDK(s:Id)(f:Bool):∀(l:wG) {i:Nat} (h:i<l.length),iU s f (l.take (i+1))=(iU s f (l.take i)||rG s l[i] (f&&isS s l[i]))
 |[],i,h=>by simp at h
 |e::l,0,_=>by simp[iU]
 |e::l,i+1,h=>by simp only[jC8,iU,jDc];rw[zDK s f l (by simpa using h),Bool.or_assoc]
theorem zHp(s:Id)(f:Bool)(n:Int):∀(l:wG) {i:Nat} (h:i<l.length),zAK s f n (l.take (i+1))=zAK s f n (l.take i)++((if (f&&isS s l[i])=true then [n]else [])++zCH s l[i])
 |[],i,h=>by simp at h
 |e::l,0,_=>by simp[zAK]
 |e::l,i+1,h=>by simp only[jC8,zAK,jDc];rw[zHp s f n l (by simpa using h)];simp
theorem zIw(s:Id)(k:Exp):isS s k=(decide (k.k=2)&&decide (k.ref=s)):=rfl
theorem zZl(D D':wE)(u:Slt)(hD:D.drop 8=.sl 1 (j8 u)::D')(hv:∀rf g,vwL rf g D=D)(hn:jT D=D)(e:Exp)(ih:∀k∈e.kids,zQw D u.id k)(f w:Bool)(l:wB) :
 wpK prog 4 zLw (fin [] (uQ 4 (.tup []) (fvS D (w||iU u.id (decide (e.k=8)) e.kids) ((zAK u.id (decide (e.k=8)) e.n e.kids).foldl adI l)))) (qV [(2,.rptr D),(3,.ptr 0 0),(4,.ptr 1 0),(5,.ptr 3 0),(6,.ptr 4 0)]) (fvS D w l++[.box (zI e)]):=by
 obtain⟨b8,hb8⟩:∃b,b=decide (e.k=8):=⟨_,rfl⟩;rw[<-hb8];unfold zLw;simp[fvS,zI];intro hmx;refine qK (S:=Nat) (fun i=>[(2,.rptr D),(3,.ptr 0 0),(4,.ptr 1 0),(5,.ptr 3 0),(6,.ptr 4 0),(30,.sl e.kids.length (qT e.kids)),(31,int e.kids.length),(32,int i)])
  (fun i=>fvS D (w||iU u.id b8 (e.kids.take i)) ((zAK u.id b8 e.n (e.kids.take i)).foldl adI l)++[.box (zI e)]) (fun i=>i<=e.kids.length) (fun i=>e.kids.length-i) 0 (by simp)
  (mu [0,1,2,3,4] 0 (by rfl) (by simp[fvS,hv,zI,iU,zAK])) ?_
 intro i hi;by_cases h:i<e.kids.length
 .have hw:=z8 h hmx;have hwt:=zDK u.id b8 e.kids h;have hmt:=zHp u.id b8 e.n e.kids h;have hne:¬e.kids=[]:=fun e'=>by rw[e']at h;simp at h
  have hk:=ih e.kids[i] (jA0 h);generalize hww:(w||iU u.id b8 (e.kids.take i))=wi at *
  generalize hll:(zAK u.id b8 e.n (e.kids.take i)).foldl adI l=li at *
  have fold1:∀own:Bool,(b8&&isS u.id e.kids[i])=own->(zAK u.id b8 e.n (e.kids.take (i+1))).foldl adI l=(zCH u.id e.kids[i]).foldl adI (if own then adI li e.n else li):=fun own ho=>by rw[hmt,jCe,jCe,hll,ho];cases own<;>rfl
  have whole1:∀own:Bool,(b8&&isS u.id e.kids[i])=own->(w||iU u.id b8 (e.kids.take (i+1)))=(wi||rG u.id e.kids[i] own):=fun own ho=>by rw[hwt,ho,<-Bool.or_assoc,hww]
  have hput:=zOe e.n li;by_cases c8:e.k=8
  .by_cases ck:e.kids[i].k=2
   .by_cases cr:e.kids[i].ref=u.id
    .have ho:(b8&&isS u.id e.kids[i])=true:=by simp[hb8,zIw,c8,ck,cr]
     have e1:=fold1 _ ho;have e2:=whole1 _ ho;have hc:=hk true wi (adI li e.n);simp[fvS,zI,h,hne,y5 h,c8,ck,cr,hD,j8,cW,hput];refine mn hc [0,1,2,3] (by simp[fvS,hv,fvA,zI,ck,cr]) ?_;simp[fvS];exact zO (i+1) h (by omega) (mu [0,1,2,3,4] 0 (by rfl) (by simp[fvS,hv,zI,e1,e2,c8,hw]))
    .have ho:(b8&&isS u.id e.kids[i])=false:=by simp[zIw,cr]
     have e1:=fold1 _ ho;have e2:=whole1 _ ho;have hc:=hk false wi li;simp[fvS,zI,h,hne,y5 h,c8,ck,cr,hD,j8,cW];refine mn hc [0,1,2,3] (by simp[fvS,hv,fvA,zI,ck]) ?_;simp[fvS];exact zO (i+1) h (by omega) (mu [0,1,2,3,4] 0 (by rfl) (by simp[fvS,hv,zI,e1,e2,c8,hw]))
   .have ho:(b8&&isS u.id e.kids[i])=false:=by simp[zIw,ck]
    have e1:=fold1 _ ho;have e2:=whole1 _ ho;have hc:=hk false wi li;simp[fvS,zI,h,hne,y5 h,c8,ck];refine mn hc [0,1,2,3] (by simp[fvS,hv,fvA,zI,c8]) ?_;simp[fvS];exact zO (i+1) h (by omega) (mu [0,1,2,3,4] 0 (by rfl) (by simp[fvS,hv,zI,e1,e2,c8,hw]))
  .have ho:(b8&&isS u.id e.kids[i])=false:=by simp[hb8,c8]
   have e1:=fold1 _ ho;have e2:=whole1 _ ho;have hc:=hk false wi li;simp[fvS,zI,h,hne,y5 h,c8];refine mn hc [0,1,2,3] (by simp[fvS,hv,fvA,zI,c8]) ?_;simp[fvS];exact zO (i+1) h (by omega) (mu [0,1,2,3,4] 0 (by rfl) (by simp[fvS,hv,zI,e1,e2,c8,hw]))
 .have hie:i=e.kids.length:=by omega
  subst hie;rw[jAt];simp[fvS,zI];exact mr [0,1,2,3] 0 (by rfl) (by simp[hv])
theorem zPa(D D':wE)(u:Slt)(hD:D.drop 8=.sl 1 (j8 u)::D')(hv:∀rf g,vwL rf g D=D)(hn:jT D=D)(e:Exp)(ih:∀k∈e.kids,zQw D u.id k):zQw D u.id e:=by
 intro f w l;rw[zNp,zSC];refine zH func58 rfl qE9 (rs:=[]) (by kernel_rfl) ?_;unfold zWc;rw[<-Bool.or_assoc,show (fvS D w l).length=4 from rfl];have hL:=zZl D D' u hD hv hn e ih f;have hl8:1<=D.length-8:=by rw[<-jCh,hD];simp
 by_cases c1:e.k=2
 .by_cases c2:e.ref=u.id
  .have key:(decide (e.k=2)&&decide (e.ref=u.id)&&!f) = !f:=by simp[c1,c2]
   rw[key];have hL':=hL (w||!f) l;generalize uQ 4 (.tup []) (fvS D (w||!f||iU u.id (decide (e.k=8)) e.kids) ((zAK u.id (decide (e.k=8)) e.n e.kids).foldl adI l))=Q at hL' ⊢;cases w
   .cases f
    all_goals
     simp[fvA,fvS,zI,c1,c2,hD,j8,cW];refine⟨_,_,m_ [0,1,2,3,4] 0 (by rfl) ?_ ?_,hL'⟩
     .simp[fvS,hv,zI,c1,c2]
     .simp[hv]
   .simp[fvA,fvS,zI,c1,c2,hD,j8,cW];refine⟨_,_,m_ [0,1,2,3,4] 0 (by rfl) ?_ ?_,hL'⟩
    .simp[fvS,hv,zI,c1,c2]
    .simp[hv]
  .have key:(decide (e.k=2)&&decide (e.ref=u.id)&&!f)=false:=by simp[c2]
   rw[key,Bool.or_false];have hL':=hL w l;generalize uQ 4 (.tup []) (fvS D (w||iU u.id (decide (e.k=8)) e.kids) ((zAK u.id (decide (e.k=8)) e.n e.kids).foldl adI l))=Q at hL' ⊢;simp[fvA,fvS,zI,c1,c2,hD,j8,cW];refine⟨_,_,m_ [0,1,2,3,4] 0 (by rfl) ?_ ?_,hL'⟩
   .simp[fvS,hv,zI,c1]
   .simp[hv]
 .have key:(decide (e.k=2)&&decide (e.ref=u.id)&&!f)=false:=by simp[c1]
  rw[key,Bool.or_false];have hL':=hL w l;generalize uQ 4 (.tup []) (fvS D (w||iU u.id (decide (e.k=8)) e.kids) ((zAK u.id (decide (e.k=8)) e.n e.kids).foldl adI l))=Q at hL' ⊢;simp[fvA,fvS,zI,c1,hD];refine⟨_,_,m_ [0,1,2,3,4] 0 (by rfl) ?_ ?_,hL'⟩
  .simp[fvS,hv,zI]
  .simp[hv]
def zSk:Nat->Option wD:=fun|7=>k_ [0,0,2,2001,0,0,1001,0,4,0] | 10=>k_ [0,0,0,2,2,0,2001,0,0,0,0,0,0,1001,0,4,0] | 13=>k_ [0,0,0,2,2,0,2001,0,0,0,0,0,0,1001,0,4,0] | 17=>k_ [0,0,2001,2001,0,0,0,0,0,0,1001,0,4,0]|_=>none
theorem vN(k:Int):mv 64 [int k] [] (.agg (zK (idR k))) []:=by
 refine ml [] [.cell 2 3 true] func64 (by kernel_rfl) ?_
 (conv in kq _ _=>cbv)
 simp;exact zA 0 (by simp[zK,idR])
def gB(l:wB)(m:Gm):wE:=[.sl l.length (yH l),int m.at_,int m.next]
def gS(l:wB)(m:Gm):St:=[.box (gB l m)]
def Gm.Ok(m:Gm)(c:Int):Prop:=0<=m.at_/\m.at_+c<=1000000/\0<=m.next/\m.next+c<=1000000
def Gst(m m':Gm)(c:Int):Prop:=m.at_<=m'.at_/\m'.at_<=m.at_+c/\m.next<=m'.next/\m'.next<=m.next+c
variable{c:Int}
theorem Gst.refl(m:Gm)(h:0<=c):Gst m m c:=by unfold Gst;omega
variable{a b:Gm}{d:Int}
theorem Gst.trans{m:Gm}{e:Int}(h1:Gst a b c)(h2:Gst b m d)(h:c+d<=e):Gst a m e:=by unfold Gst at *;omega
theorem Gst.mono(h1:Gst a b c)(h:c<=d):Gst a b d:=by unfold Gst at *;omega
theorem Gm.Ok.adv{e:Int}(h:a.Ok e)(h1:Gst a b c)(h2:c+d<=e):b.Ok d:=by unfold Gst Gm.Ok at *;omega
theorem Gm.Ok.mono(h:a.Ok c)(h1:d<=c):a.Ok d:=by unfold Gm.Ok at *;omega
theorem qU(m:Gm):Gst m m.tick 1:=by simp only[Gst,Gm.tick];omega
theorem gK(m:Gm)(k n:Int)(r:Id)(ks:wG):Gst m (bJ m k n r ks).2 1:=by simp only[Gst,bJ];omega
theorem zIm(m:Gm)(k:Nat)(d s:Id):Gst m (zGp m k d s).2 2:=(gK m _ _ _ _).trans (gK _ _ _ _ _) (by omega)
theorem zJR(l:wB)(t:Int)(m:Gm):Gst m (vI l t m).2 2:=by
 unfold vI;split
 .exact(qU m).trans (gK _ _ _ _ _) (by omega)
 .exact(qU m).trans (gK _ _ _ _ _) (by omega)
theorem zGW(l:wB)(d:Dfn)(s:Id)(t:Int)(m:Gm):Gst m (sY l d s t m).2 3:=by
 unfold sY;split
 .exact(qU m).trans (zIm _ _ _ _) (by omega)
 .exact(qU m).trans (zJR _ _ _) (by omega)
def gC:Nat->Int
 | 0=>3
 |n+1=>2*gC n+5
theorem zIl:∀n,3<=gC n
 | 0=>by simp[gC]
 |n+1=>by have:=zIl n;simp only[gC];omega
variable{f:Gm->Exp×Gm}
theorem zNQ(hf:∀m,Gst m (f m).2 c)(m:Gm)(n:Int):Gst m (zPb f m n).2 (2*c+1) :=
 (((hf m).trans (hf _) (jAf _)).trans (gK _ _ _ _ _) (by omega))
theorem zZm{g:Gm->Exp×Gm}{b:Int}(hf:∀m,Gst m (f m).2 b)(hg:∀m,Gst m (g m).2 c)(m:Gm):Gst m (gIf f g m).2 (b+2*c+1) :=
 ((((hf m).trans (hg _) (jAf _)).trans (hg _) (jAf _)).trans (gK _ _ _ _ _) (by omega))
theorem gL(l:wB)(d:Dfn)(s:Id):∀(n:Nat) (t:Int) (m:Gm),Gst m (cV l d s n t m).2 (gC n)
 | 0,t,m=>zGW l d s t m
 |n+1,t,m=>by
  have ih:=gL l d s n t;have h3:=zIl n;unfold cV;simp only[gC];split
  .exact(qU m).trans (zIm _ _ _ _) (by omega)
  .split
   .exact(qU m).trans (zNQ ih _ _) (by omega)
   .split
    .exact(qU m).trans (zNQ ih _ _) (by omega)
    .split
     .exact(qU m).trans (zZm (zGW l d s 1) ih _) (by omega)
     .exact(qU m).trans (zJR _ _ _) (by omega)
section
variable{l:wB}
theorem eY(m:Gm)(n:Int)(hn:0<n)(h:m.Ok 1):mv 65 [.ptr 0 0,int n] (gS l m) (int (gN l m n)) (gS l m.tick):=by
 obtain⟨h1,h2,h3,h4⟩:=h;refine ml [] [.slot 4] func65 (by kernel_rfl) ?_
 (conv in kq _ _=>cbv)
 have w1:=zY (m.at_+1) (by omega);have w2:=zY m.at_ (by omega);simp[gS,gB,w1,w2];refine z7 (gA l m.at_ n hn) (by simp) (by simp) ?_;simp;exact mr [0] 0 (by rfl) (by simp[Gm.tick,gN])
theorem eB(hl:∀x∈l,w64 x=x)(m:Gm){n:Int}(hn:0<n):0<=gN l m n/\gN l m n<n:=yJ hl hn
theorem dD(m:Gm)(k n:Int)(r:Id)(ks:wG)(h:m.Ok 1):mv 66 [.ptr 0 0,int k,int n,.agg (zK r),.sl ks.length (qT ks)] (gS l m) (.agg (zI (bJ m k n r ks).1)) (gS l (bJ m k n r ks).2):=by
 obtain⟨h1,h2,h3,h4⟩:=h;refine ml [] [.cell 10 15 true] func66 (by kernel_rfl) ?_
 (conv in kq _ _=>cbv)
 have w1:=zY (m.next+1) (by omega);have w2:=zY m.next (by omega);simp[gS,gB,w1,w2,zK];refine z7 (vN m.next) (by simp) (by simp[zK]) ?_;simp[zK];exact mr [0] 0 (by rfl) (by simp[bJ,zI,Typ.zero,Typ.k,Typ.id,Typ.kids,Id.zero])
variable{ss:List Slt}{t:Int}
theorem zMd{x:Int}(h:∀i,i<ss.length->∀s,ss[uL ss.length x i]?=some s->¬(s.typ.k=t/\4<x)):zAo ss t x=none:=by
 unfold zAo;split
 .rename_i h4;rw[Option.map_eq_none_iff,jCx];intro i hi;rw[jBx]at hi;split
  .rename_i s hs;intro hh;exact h i hi s hs ⟨by simpa using hh,h4⟩
  .simp
 .rfl
theorem zOW{x:Int}{i:Nat}(hi:i<ss.length){s:Slt}(hs:ss[uL ss.length x i]?=some s)(h1:s.typ.k=t)(h4:4<x)(hb:∀j,j<i->∀u,ss[uL ss.length x j]?=some u->¬u.typ.k=t):zAo ss t x=some (uL ss.length x i):=by
 unfold zAo;rw[if_pos h4];refine jAj.2 ⟨i,?_,rfl⟩;rw[List.find?_eq_some_iff_getElem];refine⟨by simp[hs,h1],i,by simpa using hi,by simp,fun j hj=>?_⟩;simp only[List.getElem_range];cases hu:ss[uL ss.length x j]? with
 |none=>rfl
 |some u=>simp[hb j hj u hu]
theorem qHJ(ht:t=0\/t=1):(tK t).k=t:=by rcases ht with rfl|rfl<;>rfl
theorem zT2(ht:t=0\/t=1):zB (tK t)=[int t,int 0,int 0,int 0,.sl 0 []]:=by rcases ht with rfl|rfl<;>rfl
theorem dB:zI Exp.zero=[int 0,int 0,int 0,int 0,int 0,int 0,int 0,int 0,int 0,int 0,int 0,int 0,.sl 0 [],.sl 0 [],.sl 0 []]:=rfl
def qDQ(ss:List Slt)(t:Int)(X:Int)(i:Nat):Prop:=i<=ss.length/\∀j,j<i->∀u,ss[uL ss.length X j]?=some u->¬(u.typ.k=t/\4<X)
def zHS(l:wB)(d:Dfn)(s:Id)(n:Nat):Prop:=∀(m:Gm) (t:Int),t=0\/t=1->m.Ok (gC n) ->
 mv 68 [.ptr 0 0,.agg (zB (tK t)),.agg (zJ d),.agg (zK s),int n] (gS l m) (.agg (zI (cV l d s n t m).1)) (gS l (cV l d s n t m).2)
theorem zHv(hl:∀x∈l,w64 x=x)(d:Dfn)(s:Id)(hfew:d.slots.length<=6)(N:Nat)(hN:N<=2)(ih:∀n,N=n+1->zHS l d s n/\zHS l d s 0):zHS l d s N:=by
 intro m t ht hok;have hc3:=zIl N;have hok':=hok;obtain⟨x0,x1⟩:=eB hl m (n:=12) (by omega);obtain⟨X,hX⟩:∃X:Nat,gN l m 12=X:=⟨(gN l m 12).toNat,by omega⟩;have htk:=qHJ ht;have htd:=zT2 ht;have hg:∀q,q=cV l d s N t m->mv 68 [.ptr 0 0,.agg (zB (tK t)),.agg (zJ d),.agg (zK s),int N] (gS l m) (.agg (zI q.1)) (gS l q.2):=by
  intro q hq;refine mj zSk [] [.cell 10 15 true] func68 (by kernel_rfl) ?_
  (conv in zV _ _ _ _=>cbv)
  simp[gS,gB,htd];refine mn (eY (l:=l) m 12 (by omega) (hok'.mono (by omega))) [0] (by simp[gS,gB]) ?_;simp[gS,gB];rw[hX];rw[hX]at x1;refine qK (S:=Nat) (fun i=>[(0,.ptr 0 0),(4,int N),(6,.ptr 1 0),(7,.ptr 2 0),(8,.ptr 3 0),(10,.ptr 4 0),(11,int X),(12,int i)])
   (fun i=>gS l m.tick++[.box (zB (tK t)),.box (zJ d),.box (zK s),.box (zI Exp.zero)]) (qDQ d.slots t X) (fun i=>d.slots.length-i) 0 ⟨by omega,fun j hj=>by omega⟩
   (mu [0,1,2,3,4] 0 (by rfl) (by simp[gS,gB,htd,dB,Gm.tick])) ?_
  rintro i ⟨hi,hno⟩;by_cases hin:i<d.slots.length/\(3:Int)<X
  .obtain⟨h1,h3⟩:=hin;have hw:=zY ((i:Int)+X) (by omega);have hk:uL d.slots.length X i<d.slots.length:=Nat.mod_lt _ (by omega);have hne:d.slots≠[]:=fun e=>by rw[e]at h1;simp at h1
   have hmod:((i:Int)+X).tmod d.slots.length=((uL d.slots.length X i:Nat):Int):=by rw[jDr (by omega)];simp[uL]
   have hget:d.slots[uL d.slots.length X i]?=some d.slots[uL d.slots.length X i]:=jA1 hk;have hnext:¬(d.slots[uL d.slots.length X i].typ.k=t/\(4:Int)<X)->∀j,j<i+1->∀u,d.slots[uL d.slots.length X j]?=some u->¬(u.typ.k=t/\4<(X:Int)):=fun hh j hj u hu=>by
    by_cases e:j=i
    .subst e;rw[hget]at hu;cases hu;exact hh
    .exact hno j (by omega) u hu
   have hhit:d.slots[uL d.slots.length X i].typ.k=t->(4:Int)<X->zAo d.slots t (gN l m 12)=some (uL d.slots.length X i):=fun a b=>by rw[hX];exact zOW h1 hget a b fun j hj u hu e=>hno j hj u hu ⟨e,b⟩
   generalize uL d.slots.length X i=k at hk hmod hget hnext hhit;by_cases h5:d.slots[k].typ.k=t
   .by_cases h4:(4:Int)<X
    .have hq2:q=zGp m.tick k d.id s:=by cases N<;>rw[hq,cV]<;>simp only[sY,hhit h5 h4]
     have g1:=dD (l:=l) m.tick 2 0 s [] (hok'.adv (qU m) (by omega));have g2:=dD (l:=l) (bJ m.tick 2 0 s []).2 8 k d.id [(bJ m.tick 2 0 s []).1] (hok'.adv ((qU m).trans (gK _ _ _ _ _) (jAf _)) (by omega));simp[gS,gB,htd,zJ,h1,h3,h4,h5,hw,hmod,hk,hne,qZ hk,j8];intro _;refine aP g1 [0] (by decide) (by simp[gS,gB]) (by simp) (by decide) (by simp) (by simp[gS]) ?_;simp[gS,gB];refine b6 g2 [0] (by decide) (by simp[gS,gB]) (by simp[zQ,zK]) ?_;simp[gS,gB];rw[hq2];exact mr [0] 0 (by rfl) (by simp[zGp,zI])
    .simp[gS,gB,htd,zJ,h1,h3,h4,h5,hw,hmod,hk,hne,qZ hk,j8];exact fun _=>zO (i+1) ⟨h1,hnext (fun hh=>h4 hh.2)⟩ (by omega) (mu [0,1,2,3,4] 0 (by rfl) (by simp[gS,gB,htd,dB,zJ,z8 h1 (show d.slots.length<=maxLen by simp[maxLen];omega)]))
   .simp[gS,gB,htd,zJ,h1,h3,h5,hw,hmod,hk,hne,qZ hk,j8];exact fun _=>zO (i+1) ⟨h1,hnext (fun hh=>h5 hh.1)⟩ (by omega) (mu [0,1,2,3,4] 0 (by rfl) (by simp[gS,gB,htd,dB,zJ,z8 h1 (show d.slots.length<=maxLen by simp[maxLen];omega)]))
  .have hnone:zAo d.slots t (gN l m 12)=none:=by
    rw[hX];refine zMd fun j hj u hu=>?_
    by_cases h3:(3:Int)<X
    .exact hno j (by omega) u hu
    .omega
   have hexit:(¬i<d.slots.length/\(0:Int)<=X)\/(i<d.slots.length/\¬(3:Int)<X):=by omega
   cases N with
   |zero =>
    have hq3:q=vI l t m.tick:=by rw[hq,cV];simp only[sY,hnone]
    rcases ht with rfl|rfl
    .have hq2:q=bJ m.tick.tick 0 (gN l m.tick 4-1) Id.zero []:=by rw[hq3,vI];simp
     have n1:=eY (l:=l) m.tick 4 (by omega) (hok'.adv (qU m) (by omega));have g:=dD (l:=l) m.tick.tick 0 (gN l m.tick 4-1) Id.zero [] (hok'.adv ((qU m).trans (qU _) (jAf _)) (by omega));obtain⟨v0,v1⟩:=eB hl m.tick (n:=4) (by omega);have hv:=zY (gN l m.tick 4-1) (by omega);have hcs:((X:Int)<2/\(X:Int)<3/\¬(X:Int)=3)\/(¬(X:Int)<2/\(X:Int)<3/\¬(X:Int)=3)\/(¬(X:Int)<2/\¬(X:Int)<3/\(X:Int)=3)\/(¬(X:Int)<2/\¬(X:Int)<3/\¬(X:Int)=3):=by omega
     rcases hcs with ⟨hB,hX3,hX4⟩|⟨hB,hX3,hX4⟩|⟨hB,hX3,hX4⟩|⟨hB,hX3,hX4⟩<;>rcases hexit with ⟨hE,hE2⟩|⟨hE,hE2⟩ <;>
      (simp[gS,gB,htd,zJ,hE,hE2,hB,hX3,hX4]
       intro _;refine mn n1 [0] (by simp[gS,gB]) ?_;simp[gS,gB,hv];refine mn g [0] (by simp[gS,gB,zK,Id.zero]) ?_;simp[gS,gB];rw[hq2];exact mr [0] 0 (by rfl) (by simp[bJ,zI]))
    .have hq2:q=bJ m.tick.tick 1 (gN l m.tick 2) Id.zero []:=by rw[hq3,vI];simp
     have n1:=eY (l:=l) m.tick 2 (by omega) (hok'.adv (qU m) (by omega));have g:=dD (l:=l) m.tick.tick 1 (gN l m.tick 2) Id.zero [] (hok'.adv ((qU m).trans (qU _) (jAf _)) (by omega));obtain⟨v0,v1⟩:=eB hl m.tick (n:=2) (by omega);have hcs:((X:Int)<2/\(X:Int)<3/\¬(X:Int)=3)\/(¬(X:Int)<2/\(X:Int)<3/\¬(X:Int)=3)\/(¬(X:Int)<2/\¬(X:Int)<3/\(X:Int)=3)\/(¬(X:Int)<2/\¬(X:Int)<3/\¬(X:Int)=3):=by omega
     rcases hcs with ⟨hB,hX3,hX4⟩|⟨hB,hX3,hX4⟩|⟨hB,hX3,hX4⟩|⟨hB,hX3,hX4⟩<;>rcases hexit with ⟨hE,hE2⟩|⟨hE,hE2⟩ <;>
      (simp[gS,gB,htd,zJ,hE,hE2,hB,hX3,hX4]
       intro _;refine mn n1 [0] (by simp[gS,gB]) ?_;simp[gS,gB];refine mn g [0] (by simp[gS,gB,zK,Id.zero]) ?_;simp[gS,gB];rw[hq2];exact mr [0] 0 (by rfl) (by simp[bJ,zI]))
   |succ n =>
    obtain⟨ih,ih0⟩:=ih n rfl;have hc3:=zIl n;have hok':m.Ok (2*gC n+5):=hok;have hwn:=zY (n:Int) (by omega);have h0n:(0:Int)<(n:Int)+1:=by omega
    obtain⟨a,ha⟩:∃a,a=cV l d s n t m.tick:=⟨_,rfl⟩;have c1:=ih m.tick t ht (hok'.adv (qU m) (by omega));have sa:=gL l d s n t m.tick;rw[<-ha]at c1 sa;obtain⟨b,hb⟩:∃b,b=cV l d s n t a.2:=⟨_,rfl⟩;have c2:=ih a.2 t ht (hok'.adv ((qU m).trans sa (jAf _)) (by omega));have sb:=gL l d s n t a.2;rw[<-hb]at c2 sb;have okb:b.2.Ok 1:=hok'.adv (((qU m).trans sa (jAf _)).trans sb (jAf _)) (by omega);by_cases hA:(X:Int)<3/\t=0
    .obtain⟨hA1,hA2⟩:=hA;subst hA2;have hq2:q=bJ b.2 4 X Id.zero [a.1,b.1]:=by rw[hq,cV,hnone];simp only[hX];rw[if_pos ⟨hA1,trivial⟩,zPb,<-ha,<-hb]
     have g:=dD (l:=l) b.2 4 X Id.zero [a.1,b.1] okb;rcases hexit with ⟨hE,hE2⟩|⟨hE,hE2⟩
     all_goals
      simp[gS,gB,htd,zJ,hE,hE2,h0n,hwn,hA1];intro _;refine mn c1 [0] (by simp[gS,gB,htd,zJ,zK]) ?_;simp[gS,gB];obtain rfl|rfl|rfl:X=0\/X=1\/X=2:=by omega
      all_goals
       simp[gS,gB,htd,zJ,h0n,hwn];refine aP c2 [0] (by decide) (by simp[gS,gB]) (by simp[htd,zJ,zK]) (by decide) (by simp) (by simp[gS]) ?_;simp[gS,gB];refine b6 g [0] (by decide) (by simp[gS,gB]) (by simp[zQ,zK,Id.zero]) ?_;simp[gS,gB];rw[hq2];exact mr [0] 0 (by rfl) (by simp[bJ,zI])
    .by_cases hB:(X:Int)<2
     .have ht1:t=1:=by omega
      subst ht1;have hX3:(X:Int)<3:=by omega
      have hq2:q=bJ b.2 4 (7+X) Id.zero [a.1,b.1]:=by rw[hq,cV,hnone];simp only[hX];rw[if_neg (by omega),if_pos hB,zPb,<-ha,<-hb]
      have g:=dD (l:=l) b.2 4 (7+X) Id.zero [a.1,b.1] okb;rcases hexit with ⟨hE,hE2⟩|⟨hE,hE2⟩
      all_goals
       simp[gS,gB,htd,zJ,hE,hE2,h0n,hwn,hB,hX3];intro _;refine mn c1 [0] (by simp[gS,gB,htd,zJ,zK]) ?_;simp[gS,gB];obtain rfl|rfl:X=0\/X=1:=by omega
       all_goals
        simp[gS,gB,htd,zJ,h0n,hwn];refine aP c2 [0] (by decide) (by simp[gS,gB]) (by simp[htd,zJ,zK]) (by decide) (by simp) (by simp[gS]) ?_;simp[gS,gB];refine b6 g [0] (by decide) (by simp[gS,gB]) (by simp[zQ,zK,Id.zero]) ?_;simp[gS,gB];rw[hq2];exact mr [0] 0 (by rfl) (by simp[bJ,zI])
     .by_cases hX4:(X:Int)=3
      .have hX3:¬(X:Int)<3:=by omega
       clear c1 c2 sa sb okb;clear hb;clear b;clear ha;clear a;have c0:=ih0 m.tick 1 (.inr rfl) (hok'.adv (qU m) (by simp only[gC];omega));have s0:=gL l d s 0 1 m.tick;obtain⟨c,hc⟩:∃c,c=cV l d s 0 1 m.tick:=⟨_,rfl⟩;rw[<-hc]at c0 s0;have d1:=ih c.2 t ht (hok'.adv ((qU m).trans s0 (jAf _)) (by simp only[gC];omega));have s1:=gL l d s n t c.2;obtain⟨a,ha⟩:∃a,a=cV l d s n t c.2:=⟨_,rfl⟩;rw[<-ha]at d1 s1;have d2:=ih a.2 t ht (hok'.adv (((qU m).trans s0 (jAf _)).trans s1 (jAf _)) (by simp only[gC];omega));have s2:=gL l d s n t a.2;obtain⟨b,hb⟩:∃b,b=cV l d s n t a.2:=⟨_,rfl⟩;rw[<-hb]at d2 s2;have g:=dD (l:=l) b.2 5 0 Id.zero [c.1,a.1,b.1] (hok'.adv ((((qU m).trans s0 (jAf _)).trans s1 (jAf _)).trans s2 (jAf _)) (by simp only[gC];omega));have hq2:q=bJ b.2 5 0 Id.zero [c.1,a.1,b.1]:=by have e0:sY l d s 1 m.tick=c:=hc.symm;rw[hq,cV,hnone];simp only[hX];rw[if_neg (by omega),if_neg (by omega),if_pos hX4,gIf];simp only[e0,<-ha,<-hb]
       rcases hexit with ⟨hE,hE2⟩|⟨hE,hE2⟩
       all_goals
        simp[gS,gB,htd,zJ,hE,hE2,h0n,hwn,hB,hX3,hX4];intro _;refine mn c0 [0] (by simp[gS,gB,zB,jX,tK,zJ,zK,Typ.k,Typ.id,Typ.kids]) ?_;simp[gS,gB,htd,zJ,h0n,hwn];refine mn d1 [0] (by simp[gS,gB,htd,zJ,zK]) ?_;simp[gS,gB,htd,zJ,h0n,hwn];refine aP d2 [0] (by decide) (by simp[gS,gB]) (by simp[htd,zJ,zK]) (by decide) (by simp) (by simp[gS]) ?_;simp[gS,gB];refine b6 g [0] (by decide) (by simp[gS,gB]) (by simp[zQ,zI,zK,Id.zero]) ?_;simp[gS,gB];rw[hq2];exact mr [0] 0 (by rfl) (by simp[bJ,zI])
      .clear c1 c2 sa sb okb;clear hb;clear b;clear ha;clear a;have hq3:q=vI l t m.tick:=by rw[hq,cV,hnone];simp only[hX];rw[if_neg (by omega),if_neg (by omega),if_neg hX4]
       rcases ht with rfl|rfl
       .have hq2:q=bJ m.tick.tick 0 (gN l m.tick 4-1) Id.zero []:=by rw[hq3,vI];simp
        have n1:=eY (l:=l) m.tick 4 (by omega) (hok'.adv (qU m) (by omega));have g:=dD (l:=l) m.tick.tick 0 (gN l m.tick 4-1) Id.zero [] (hok'.adv ((qU m).trans (qU _) (jAf _)) (by omega));obtain⟨v0,v1⟩:=eB hl m.tick (n:=4) (by omega);have hv:=zY (gN l m.tick 4-1) (by omega);have hcs:(¬(X:Int)<2/\¬(X:Int)<3/\¬(X:Int)=3):=by omega
        rcases hcs with ⟨hB,hX3,hX4⟩<;>rcases hexit with ⟨hE,hE2⟩|⟨hE,hE2⟩ <;>
         (simp[gS,gB,htd,zJ,hE,hE2,hB,hX3,hX4,h0n]
          intro _;refine mn n1 [0] (by simp[gS,gB]) ?_;simp[gS,gB,hv];refine mn g [0] (by simp[gS,gB,zK,Id.zero]) ?_;simp[gS,gB];rw[hq2];exact mr [0] 0 (by rfl) (by simp[bJ,zI]))
       .have hq2:q=bJ m.tick.tick 1 (gN l m.tick 2) Id.zero []:=by rw[hq3,vI];simp
        have n1:=eY (l:=l) m.tick 2 (by omega) (hok'.adv (qU m) (by omega));have g:=dD (l:=l) m.tick.tick 1 (gN l m.tick 2) Id.zero [] (hok'.adv ((qU m).trans (qU _) (jAf _)) (by omega));obtain⟨v0,v1⟩:=eB hl m.tick (n:=2) (by omega);have hcs:(¬(X:Int)<2/\(X:Int)<3/\¬(X:Int)=3)\/(¬(X:Int)<2/\¬(X:Int)<3/\¬(X:Int)=3):=by omega
        rcases hcs with ⟨hB,hX3,hX4⟩|⟨hB,hX3,hX4⟩<;>rcases hexit with ⟨hE,hE2⟩|⟨hE,hE2⟩ <;>
         (simp[gS,gB,htd,zJ,hE,hE2,hB,hX3,hX4,h0n]
          intro _;refine mn n1 [0] (by simp[gS,gB]) ?_;simp[gS,gB];refine mn g [0] (by simp[gS,gB,zK,Id.zero]) ?_;simp[gS,gB];rw[hq2];exact mr [0] 0 (by rfl) (by simp[bJ,zI]))
 exact hg _ rfl
theorem zBQ(hl:∀x∈l,w64 x=x)(d:Dfn)(s:Id)(hfew:d.slots.length<=6):∀n:Nat,n<=2->zHS l d s n
 | 0,h=>zHv hl d s hfew 0 h (fun n e=>by omega)
 |n+1,h=>zHv hl d s hfew (n+1) h fun k e=>by
  have:k=n:=by omega
  subst this;exact⟨zBQ hl d s hfew k (by omega),zBQ hl d s hfew 0 (by omega)⟩
end
def qGe:Nat->Option wD:=fun|8=>some [(0,1),(1,0),(3,1),(4,0),(2,3),(5,0),(6,4),(7,0)]|_=>none
@[simp]theorem zLB:zC prog 154=true:=by kernel_rfl
mutual
theorem zO4:∀(v:Val) (k:Nat),(zAf v).bnd k=true
 | .mk a n l,k=>by simp only[zAf,A.bnd];exact zAv l k
theorem zAv:∀(l:wI) (k:Nat),eJ k (zR l)=true
 |[],k=>by simp
 |v::l,k=>by have h:=zO4 v k;rw[zJq]at h;simp only[A.bnd]at h;simp[h,zAv l k]
end
attribute [simp] zAv
def qG(l:List wI):wE:=l.map fun vs=>.sl vs.length (zR vs)
@[simp]theorem zLM(l:List wI):(qG l).length=l.length:=by simp[qG]
@[simp]theorem zYK:qG []=[]:=rfl
@[simp]theorem zWU(v:wI)(l:List wI):qG (v::l)=.sl v.length (zR v)::qG l:=rfl
@[simp]theorem fI(a b:List wI):qG (a++b)=qG a++qG b:=by simp[qG]
theorem sQ:∀(l:List wI),qY (qG l)
 |[]=>qY.nil
 |v::l=>qY.sl (eW v) (sQ l)
@[simp]theorem zX4(l:List wI):jT (qG l)=qG l:=(sQ l).1
@[simp]theorem qCu{rf g}(l:List wI):vwL rf g (qG l)=qG l:=(sQ l).2 _ _
@[simp]theorem zL6:∀(l:List wI) (k:Nat),eJ k (qG l)=true
 |[],k=>by simp
 |v::l,k=>by simp[zL6 l k]
variable{l:List wI}
theorem aO(h:i<l.length):(qG l).drop i=.sl l[i].length (zR l[i])::qG (l.drop (i+1)):=by rw[qG,<-List.map_drop,jAo h];rfl
theorem zOF:mv 155 [.nil] [] .nil []:=by
 refine ml [] [.slot 2] func155 (by kernel_rfl) ?_
 (conv in kq _ _=>cbv)
 simp;exact zA 0 (by simp)
theorem zRs(l:wI)(h:l≠[])(hb:l.length*40<=140737488355328)(hm:l.length<=maxLen):mv 155 [.sl l.length (zR l)] [] (.row 0 l.length) [.row false 46 3 l.length (zR l)]:=by
 refine ml [] [.slot 2] func155 (by kernel_rfl) ?_
 (conv in kq _ _=>cbv)
 simp[h];refine⟨⟨hm,hb⟩,?_⟩;exact mr [0] 0 (by rfl) (by simp)
theorem zDc(l:List wI):mv 118 [.sl l.length (qG l)] [] (.clo 154 [] [.rptr [.sl l.length (qG l)]]) []:=by
 refine ml [] [.slot 2] func118 (by kernel_rfl) ?_
 (conv in kq _ _=>cbv)
 simp;exact zA 1 (by simp)
def o6(l:wI):A:=if l=[]then .nil else .sl l.length (zR l)
@[simp]theorem zT4:o6 []=.nil:=rfl
theorem zHL{l:wI}(h:l≠[]):o6 l=.sl l.length (zR l):=by simp[o6,h]
@[simp]theorem qEj(l:wI)(k:Nat):(o6 l).bnd k=true:=by unfold o6;split<;>simp
@[simp]theorem zUl(l:wI):cellsOf (o6 l)=some [o6 l]:=by unfold o6;split<;>simp
@[simp]theorem qKx{rf g}(l:wI):vw rf g (o6 l)=o6 l:=by unfold o6;split<;>simp
@[simp]theorem qBF(l:wI):nrm0 (o6 l)=.sl l.length (zR l):=by unfold o6;split<;>simp_all
def cH(acc:List wI)(last:wI):List wI:=acc.flatMap fun h=>last.map fun x=>h++[x]
def j3(l:List wI):List wI:=l.foldl cH [[]]
@[simp]theorem zPQ:j3 []=[[]]:=rfl
theorem tP(l:List wI)(last:wI):j3 (l++[last])=cH (j3 l) last:=by simp[j3]
theorem zHz:∀(l:List wI) (acc:List wI) (n:Nat),(∀t∈acc,t.length=n)->∀t∈l.foldl cH acc,t.length=n+l.length
 |[],acc,n,h,t,ht=>by simpa using h t ht
 |a::l,acc,n,h,t,ht=>by
  have:=zHz l (cH acc a) (n+1) (fun s hs=>by simp only[cH,List.mem_flatMap,jAd]at hs;obtain⟨u,hu,x,_,rfl⟩:=hs;simp[h u hu]) t ht
  simp only[jAb];omega
theorem zHy{t:wI}(h:t∈j3 l):t.length=l.length:=by have:=zHz l [[]] 0 (by simp) t h;omega
theorem dJ(acc:List wI)(last:wI):(cH acc last).length=acc.length*last.length:=by
 induction acc with
 |nil=>simp[cH]
 |cons a acc ih =>
  have e:cH (a::acc) last=last.map (fun x=>a++[x])++cH acc last:=by simp[cH]
  rw[e];simp[ih,jBi,jCj]
theorem zHG{acc:List wI}{last:wI}{j:Nat}(hi:i<acc.length)(hj:j<last.length):(cH acc last)[i*last.length+j]?=some (acc[i]++[last[j]]):=by
 induction acc generalizing i with
 |nil=>simp at hi
 |cons a acc ih =>
  have e:cH (a::acc) last=last.map (fun x=>a++[x])++cH acc last:=by simp[cH]
  rw[e];cases i with
  |zero=>rw[jAl (by simpa using hj)];simp[hj]
  |succ i =>
   have hi':i<acc.length:=by simpa using hi
   rw[jAy (by simp[jBi])];have:(i+1)*last.length+j-(last.map fun x=>a++[x]).length=i*last.length+j:=by simp[jBi];omega
   rw[this,ih hi'];rfl
theorem zNU:∀(n:Nat) (l:List wI),l.length=n->n<=1000000->zNv prog 154 [] [.rptr [.sl l.length (qG l)]] ((j3 l).map fun t=>[o6 t]):=by
 intro n;induction n with
 |zero =>
  intro l hl _;have hl0:l=[]:=jC9 hl;subst hl0;refine vO fun b m T hT hY=>?_
  simp only[zPQ,jAg,jBu,jAb,jBe,zT4]at hT hY ⊢;have h0:=hT 0 (by simp);have h1:=hT 1 (by simp);refine mj qGe [] [] func154 (by kernel_rfl) ?_
  (conv in zV _ _ _ _=>cbv)
  simp[h0.1,a8 h0.1];refine zCq h0 h1 (hY 0 (by simp)) (by simp) ?_;simp;exact zIC h1 (by simp)
 |succ n ih =>
  intro l hl hn;obtain⟨l',last,rfl⟩:∃l' last,l=l'++[last]:=⟨l.dropLast,l.getLast (by intro h;simp[h]at hl),by rw[List.dropLast_concat_getLast]⟩;have hl':l'.length=n:=by simpa using hl
  refine vO fun b m T hT hY=>?_
  have hXl:((j3 (l'++[last])).map fun t=>[o6 t]).length=(j3 l').length*last.length:=by rw[jAe,tP,dJ]
  rw[hXl]at hT ⊢;have h0:=hT 0 (jB4 _);refine mj qGe [] [] func154 (by kernel_rfl) ?_
  (conv in zV _ _ _ _=>cbv)
  have hw:IntKind.i64.wrap (l'.length:Int)=l'.length:=zTK (by simp[maxLen];omega);have hne:¬((l'.length:Int)+1=0):=by omega
  simp[h0.1,a8 h0.1,hw,hne];intro hmx;refine⟨by omega,?_⟩;refine mq (zDc l') (by simp) ?_;simp;have hCl:∀j,j<=(j3 l').length*last.length->Cl (m+1) (T j++[.box [yv b]]):=fun j hj=>(hT j hj).app rfl (by simp)
  have hbd:∀i,i<=(j3 l').length->i*last.length<=(j3 l').length*last.length:=fun i hi=>jBn _ hi
  refine⟨[(1,.rptr [.sl (l'.length+1) (qG l'++[.sl last.length (zR last)])]),(2,.ptr m 0),(16,.clo 154 [] [.rptr [.sl l'.length (qG l')]])],m+1,(j3 l').map (fun t=>[o6 t]),fun j=>T (j*last.length)++[.box [yv b]],154,[],
   [.rptr [.sl l'.length (qG l')]],by simp,zLB,ih l' hl' (by omega),?_,by omega,?_,by simp,by simp,?_,?_⟩
  .simp only[Nat.zero_mul];exact zCx (τ:=[]) (by simp) (by simp[h0.1]) (by simp) (by simp[h0.1]) (by rw[(hCl 0 (jB4 _)).1];exact(hCl 0 (jB4 _)).2)
  .intro i hi;exact hCl _ (hbd i (by simpa using hi))
  .intro i hi b' M r r';simp only[jAe]at hi;have hd:(qG l'++[A.sl last.length (zR last)]).drop l'.length=[A.sl last.length (zR last)]:=by rw[<-zLM l'];simp
   simp[hw,hd];intro _;refine⟨by omega,?_⟩;intro hlm;have hCl2:∀j r,i*last.length+j<=(j3 l').length*last.length->Cl (m+2) (T (i*last.length+j)++[.box [yv b],AObj.lp b' r M
    [(1,A.rptr [A.sl (l'.length+1) (qG l'++[A.sl last.length (zR last)])]),(2,A.ptr m 0),
     (16,A.clo 154 [] [A.rptr [A.sl l'.length (qG l')]])]]):=fun j r hj=>(hT _ hj).app rfl (by simp)
   have hij:∀j,j<=last.length->i*last.length+j<=(j3 l').length*last.length:=fun j hj=>by have:=jBn last.length (Nat.succ_le_of_lt hi);rw[jBi]at this;omega
   have hTi:(T (i*last.length)).length=m:=(hT _ (hij 0 (jB4 _))).1;refine qK (S:=Nat) (fun j=>[(2,.ptr m 0),(3,o6 (j3 l')[i]),(23,.sl last.length (zR last)),(24,int last.length),(25,int j)]) (fun j=>T (i*last.length+j)++[.box [yv b],AObj.lp b' r' M
    [(1,A.rptr [A.sl (l'.length+1) (qG l'++[A.sl last.length (zR last)])]),(2,A.ptr m 0),
     (16,A.clo 154 [] [A.rptr [A.sl l'.length (qG l')]])]]) (fun j=>j<=last.length) (fun j=>last.length-j) 0 (by simp)
    (zCx (τ:=[]) (by simp) (by simp[hTi]) (by simp) (by simp[hTi]) (by rw[(hCl2 0 r' (hij 0 (jB4 _))).1];exact(hCl2 0 r' (hij 0 (jB4 _))).2)) ?_
   intro j hj;simp;refine qX (fun h=>?_) (fun h=>?_)<;>simp at h
   .have hTj:=hT _ (hij j hj);simp[h,qL h,hTj.1,a8 hTj.1,aR hTj.1,cZ hTj.1,zBZ hTj.1,zBk];have hgl:i*last.length+j<(cH (j3 l') last).length:=by rw[dJ];have:=hij (j+1) h;omega
    have hge:(cH (j3 l') last)[i*last.length+j]=(j3 l')[i]++[last[j]]:=by
     have:=zHG hi h;rw[jA1 hgl]at this
     simpa using this
    have hTj1:=hT (i*last.length+(j+1)) (hij (j+1) h);have hyj:lD prog b [.sl ((j3 l')[i].length+1) (zR ((j3 l')[i]++[last[j]]))] (T (i*last.length+j)) fun o τ=>o=.ret (.lit (.bool true))/\τ = T (i*last.length+(j+1)):=by
     have:=hY (i*last.length+j) (by simpa[tP]using hgl);simp only[tP,jAw,hge]at this;rw[zHL (by simp)]at this
     simpa[jAq]using this
    have hlen:(j3 l')[i].length=n:=by rw[zHy (jA0 hi),hl']
    by_cases hh:(j3 l')[i]=[]
    .refine zIa zOF (by simp[hh]) ?_;simp[hTj.1,a8 hTj.1,aR hTj.1,cZ hTj.1,zBZ hTj.1];refine⟨by simp[maxLen],?_⟩;simp only[hh,jBe,jB1,jBy,mV,zE2]at hyj;refine exY (k:=3) rfl hTj hTj1 (by simp) hyj ?_;simp;refine zO (j+1) h (by omega) (zCx (τ:=[.box (zF last[j]),.row true 46 3 1 (zF last[j])]) (by simp[zF]) (by simp[hTj1.1]) (by simp[hh,z8 h hlm]) (by simp[hTj1.1]) (by rw[(hCl2 (j+1) r' (hij (j+1) h)).1];exact(hCl2 (j+1) r' (hij (j+1) h)).2))
    .refine zIa (zRs _ hh (by omega) (by simp[maxLen];omega)) (by simp[zHL hh]) ?_;simp[hTj.1,a8 hTj.1,aR hTj.1,cZ hTj.1,zBZ hTj.1];refine⟨by simp[maxLen];omega,?_⟩;simp only[aY,mV,zE2]at hyj;refine exY (k:=3) rfl hTj hTj1 (by simp) hyj ?_;simp;refine zO (j+1) h (by omega) (zCx (τ:=[.box (zF last[j]),.row true 46 3 ((j3 l')[i].length+1) (zR (j3 l')[i]++zF last[j])]) (by simp[zF]) (by simp[hTj1.1]) (by simp[z8 h hlm]) (by simp[hTj1.1]) (by rw[(hCl2 (j+1) r' (hij (j+1) h)).1];exact(hCl2 (j+1) r' (hij (j+1) h)).2))
   .have:j=last.length:=by omega
    subst this;simp;exact Wk.here (by rw[jBi])
  .simp;exact zIC (hT _ (jA _)) (by simp)
@[simp]theorem zRa:∀(X:List wI) (k:Nat),eJ k (X.map o6)=true
 |[],k=>rfl
 |t::X,k=>by simp[zRa X k]
@[simp]theorem zVD{rf g}:∀(X:List wI),vwL rf g (X.map o6)=X.map o6
 |[]=>by simp
 |t::X=>by simp[zVD X]
theorem zLC{P:Program} {U:St}{f:FuncId}{l n:Nat}{e:TypeId}{sz:Nat}{cs:wE}(pre:wE)(hU:U[l]?=some (.row false e sz n cs)){Q:Out->St->Prop}(h:aG P f (pre++[.sl n cs]) (U.set l (.row true e sz n cs)) Q):aG P f (pre++[.row l n]) U Q:=by
 intro H L w vs hs hvs;obtain⟨us,ws,rfl,h0,h00⟩:=qE.split hvs;obtain⟨v,vs',rfl,h1,h2⟩:=qF h00;have:=jP h2;subst this;obtain⟨H',hn,hr⟩:=zEh hs hU h1;refine(h H' L w (us++[v]) hn.st (qE.append (qE.mono hn.step.hle hn.lle pre h0) (qW hr jV))).mono fun e w' hh=>?_
 obtain⟨o,U',H2,L2,g1,g2,g3⟩:=hh;exact⟨o,U',H2,L2,g1,hn.trans g2,g3⟩
def zLx:K:=(G [kMi 17 0] (K.block 2 (K.loop (Z (G [M 76 17,M 77 16,kN 78 77,kB 79 76 78 .lss,M 80 79,T 80 true (M 81 11),T 80 true (kN 82 81),T 80 true (kBi 83 82 65 .lss),kPf 84 80 83] (Y 84 ks (K.exit 2))) (Z (K.block 3 (K.dops [(0,0,M 87 11),(1,0,M 88 1),(2,0,M 89 12),(3,0,kX 90 88 89 3),(4,0,J 91 90 3),(5,0,kd 92 31 3 1 [ki,ki,ki] [(0,3,(kt 91))]),(6,0,M 93 16),(7,0,M 94 17),(8,0,kX 95 93 94 1),(9,0,L 96 95 1),(10,0,kP 97 31 3 24 92 96),(11,0,kd 98 28 1 1 [kl] [(0,1,(kt 97))]),(12,0,kP 99 28 1 24 87 98),(13,0,M 11 99)])) (K.ops [M 85 17,kBi 86 85 1 .add,M 17 86]))))))
def zWd:K:=G [kO 5 0,kO 7 2,kO 8 3,kMn 10] (Z (G [J 18 7 3,J 19 8 3,⟨none,.eqs (some 20) false [.i,.i,.i] (kt 18) (kt 19)⟩] (Y 20 (G [kd 21 28 1 1 [kl] [(0,1,(.const kl))],M 10 21] kr) ks)) (G [kMn 11] (Z (G [kMi 12 0] (K.block 0 (K.loop (Z (G [M 22 12,M 23 1,kN 24 23,kB 25 22 24 .lss,M 26 25,T 26 true (M 27 11),T 26 true (kN 28 27),T 26 true (kBi 29 28 65 .lss),kPf 30 26 29] (Y 30 ks (K.exit 0))) (Z (K.block 1 (Z (K.wk (K.dops [(0,1,J 34 5 2),(1,0,M 35 1),(2,0,M 36 12),(3,1,kX 37 35 36 3),(4,1,J 38 37 3),(5,1,kC 39 13 [(kt 34),(kt 38)]),(6,0,M 33 39),(7,0,kE 40 33 0),(8,0,kE 41 33 1),(9,0,kE 42 33 2),(10,304,⟨none,.alr (some 13) 4 kz2⟩),(11,305,⟨none,.alr (some 14) 5 kz2⟩),(12,0,S 13 40 5),(13,0,S 14 41 5),(14,0,M 15 42)])) (Z (G [D 43 13 0,L 44 43 1,kQi 45 44 3 true,M 46 45,T 46 false (D 47 14 0),T 46 false (L 48 47 1),T 46 false (kQi 49 48 3 true),kPt 50 46 49,M 51 50,T 51 false (D 52 13 1),T 51 false (J 53 52 3),T 51 false (J 54 7 3),⟨some (51,false),.eqs (some 55) true [.i,.i,.i] (kt 53) (kt 54)⟩,kPt 56 51 55,M 57 56,T 57 false (M 58 4),T 57 false (D 59 14 1),T 57 false (J 60 59 3),T 57 false (kC 61 33 [(kt 58),(kt 60)]),kPt 62 57 61] (Y 62 (K.exit 1) ks)) (Z (K.dops [(0,1,J 63 5 2),(1,0,M 64 1),(2,1,D 65 14 1),(3,1,J 66 65 3),(4,1,J 67 8 3),(8,1,D 71 14 1),(9,1,J 72 71 3),(5,0,kd 68 31 3 0 [] []),(6,0,M 69 4),(7,0,kP 70 31 3 24 68 69),(10,0,kd 73 31 3 1 [ki,ki,ki] [(0,3,(kt 72))]),(11,0,kP 74 31 3 24 70 73),(12,4,kC 75 55 [(kt 63),(kt 64),(kt 66),(kt 67),(kt 74)]),(13,0,
 M 16 75)]) (K.wk zLx))))) (K.wk (K.ops [M 31 12,kBi 32 31 1 .add,M 12 32]))))))) (G [M 100 11,M 10 100] kr))))
def qFY:Nat->Option wD:=fun|7=>k_ [1,0,0,1,1,1,0,0,0,0,304,305,0,0,0] | 9=>some [(0,1),(1,0),(2,1),(3,1),(4,1),(8,1),(9,1),(5,0),(6,0),(7,0),(10,0),(11,0),(12,4),(13,0)]|_=>none
theorem qEA:kv f55 qFY zWd:=mw (by kernel_rfl)
def fS(p:Prg)(at_ to:Id)(out:List wF):St:=[.box (zP p),.box (zK at_),.box (zK to),.row false 28 1 out.length (jR out)]
def oP(out R:List wF)(x:Id)(k:Nat):List wF:=out++(R.take k).map (x::·)
theorem zZk(p:Prg)(at_ to:Id)(all met:wF)(i:Nat)(hi:i<all.length)(hall:all.length<=100)(out R:List wF)(ho:out.length<65)(hR:R.length<=65)(hR2:∀q∈R,q.length<=1000)(Q:Ex->wK)
 (hQ:∀E' S',b9 0 (qV [(1,.sl all.length (zT all)),(4,.sl met.length (zT met)),(5,.ptr 0 0),(7,.ptr 1 0),(8,.ptr 2 0),(11,.row 3 ((out++R.map (all[i]::·)).take 65).length),(12,int i)]) (fS p at_ to ((out++R.map (all[i]::·)).take 65)) E' S'->Q .norm E' S') :
 wpK prog 0 zLx Q (qV [(1,.sl all.length (zT all)),(4,.sl met.length (zT met)),(5,.ptr 0 0),(7,.ptr 1 0),(8,.ptr 2 0),(11,.row 3 out.length),(12,int i),(16,.sl R.length (jR R))]) (fS p at_ to out):=by
 have hP:=eP p;unfold zLx;simp[fS,hP,zK];refine qK (S:=Nat) (fun k=>[(1,.sl all.length (zT all)),(4,.sl met.length (zT met)),(5,.ptr 0 0),(7,.ptr 1 0),(8,.ptr 2 0),(11,.row 3 (oP out R all[i] k).length),(12,int i),(16,.sl R.length (jR R)),(17,int k)]) (fun k=>fS p at_ to (oP out R all[i] k)) (fun k=>k<=R.length/\(oP out R all[i] k).length<=65) (fun k=>R.length-k) 0 ⟨by omega,by simp[oP];omega⟩
  (mu [0,1,2,3] 0 (by rfl) (by simp[fS,hP,zK,oP])) ?_
 rintro k ⟨hk,hlen⟩;have hstep:∀(h:k<R.length),oP out R all[i] (k+1)=oP out R all[i] k++[all[i]::R[k]]:=fun h=>by unfold oP;rw[jA6 h,jBs,jAu];rfl
 have hfin:(k=R.length\/65<=(oP out R all[i] k).length)->(out++R.map (all[i]::·)).take 65=oP out R all[i] k:=fun h=>by
  rcases h with h|h
  .subst h;unfold oP at hlen ⊢;rw[jAt]at hlen ⊢;exact jA9 hlen
  .have e:out++R.map (all[i]::·)=oP out R all[i] k++(R.drop k).map (all[i]::·):=by unfold oP;rw[jAu,<-jBs,jC1]
   rw[e,jC (by omega),jA9 (by omega)]
 generalize oP out R all[i] k=o at *
 by_cases h:k<R.length
 .have hI:(k:Int)<R.length:=by omega
  have hw:=z8 h (show R.length<=maxLen by simp[maxLen];omega);by_cases h65:o.length<65
  .have h65':(o.length:Int)<65:=by omega
   have hne:R≠[]:=fun e=>by rw[e]at h;simp at h
   have hna:all≠[]:=fun e=>by rw[e]at hi;simp at hi
   have hql:=hR2 R[k] (jA0 h);simp[fS,hP,zK,h,hI,h65,h65',hne,hna,hi,yS hi,eV h];intro _;refine⟨fun hnil=>?_,fun hnn=>?_⟩
   .refine⟨⟨by simp[maxLen];omega,by omega⟩,?_⟩;exact zO (k+1) ⟨h,by rw[hstep h];simp;omega⟩ (by omega) (mu [0,1,2,3] 1 (by rfl) (by simp[fS,hP,zK,hstep h,oC,gW,hnil,zT,hw]))
   .refine⟨⟨by simp[maxLen];omega,by omega⟩,⟨by simp[maxLen];omega,by omega⟩,?_⟩;exact zO (k+1) ⟨h,by rw[hstep h];simp;omega⟩ (by omega) (mu [0,1,2,3] 1 (by rfl) (by simp[fS,hP,zK,hstep h,oC,gW,zT,jCj 1,hw]))
  .have h65':¬(o.length:Int)<65:=by omega
   have he:=hfin (.inr (by omega));rw[he]at hQ;simp[fS,hP,zK,h,hI,h65,h65'];exact fun _=>hQ _ _ (mu [0,1,2,3] 0 (by rfl) (by simp[fS,hP,zK]))
 .have hI:¬(k:Int)<R.length:=by omega
  have he:=hfin (.inl (by omega));rw[he]at hQ;simp[fS,hP,zK,h,hI];exact fun _=>hQ _ _ (mu [0,1,2,3] 0 (by rfl) (by simp[fS,hP,zK]))
theorem zC3{L:wU}{to:Id}:∀(n:Nat) (at_:Id) (met:wF),∀q∈yY L to n at_ met,q.length<=n
 | 0,at_,met,q,h=>by
  unfold yY at h;split at h
  .simp at h;simp[h]
  .cases h
 |n+1,at_,met,q,h=>by
  unfold yY at h;split at h
  .simp at h;simp[h]
  .rw[List.mem_flatMap]at h;obtain⟨e,_,h⟩:=h;split at h
   .rw[jAd]at h;obtain⟨q',h',rfl⟩:=h;have:=zC3 n e.to (met++[e.to]) q' h';simp;omega
   .cases h
theorem zOZ(p:Prg)(to:Id)(n:Nat)(at_:Id)(met:wF)(i:Nat):(cU p to n at_ met i).length<=65:=by unfold cU;rw[jAs];omega
def zLr(p:Prg)(to:Id)(n:Nat):Prop:=∀(at_:Id) (met:wF),met≠[]->rN (yA p) met<=n->met.length+n<=900 ->
 mv 55 [.agg (zP p),.sl (yO p).length (zT (yO p)),.agg (zK at_),.agg (zK to),.sl met.length (zT met)] []
  (.sl ((yY (yA p) to (n+1) at_ met).take 65).length (jR ((yY (yA p) to (n+1) at_ met).take 65))) []
theorem zGS(p:Prg)(hp:p.defs.length<=100)(hcv:(yO p).length<=100)(to:Id)(n:Nat)(ih:∀k,n=k+1->zLr p to k):zLr p to n:=by
 intro at_ met hme hfree hml
 have hP:=eP p;refine zN func55 rfl qEA (rs:=[.slot 10]) (by kernel_rfl) ?_;unfold zWd;by_cases hat:at_=to
 .have he:(yY (yA p) to (n+1) at_ met).take 65=[[]]:=by unfold yY;rw[if_pos hat];rfl
  rw[he];subst hat;simp[hP,zK];exact zA 0 (by simp[jR])
 .have hfn:=zOY p to n at_ met hat
  simp[hP,zK,hat];refine qK (S:=Nat) (fun i=>[(1,.sl (yO p).length (zT (yO p))),(4,.sl met.length (zT met)),(5,.ptr 0 0),(7,.ptr 1 0),(8,.ptr 2 0),(11,.row 3 (cU p to n at_ met i).length),(12,int i)]) (fun i=>fS p at_ to (cU p to n at_ met i)) (fun i=>i<=(yO p).length) (fun i=>(yO p).length-i) 0 (by simp)
   ((qS (t:=11) (by simp) 28 1).trans (mu [0,1,2,3] 0 (by rfl) (by simp[fS,hP,zK,cU]))) ?_
  intro i hi;have hlen:=zOZ p to n at_ met i
  by_cases h:i<(yO p).length
  .have hI:(i:Int)<(yO p).length:=by omega
   by_cases h65:(cU p to n at_ met i).length<65
   .have h65':((cU p to n at_ met i).length:Int)<65:=by omega
    have hne:yO p≠[]:=fun e=>by rw[e]at h;simp at h
    have hs:=zMg p to n at_ met h
    have hw:=z8 h (show (yO p).length<=maxLen by simp[maxLen];omega);have hle:=zKq p (by omega) (yO p)[i];have hskip:pM p to n at_ met (yO p)[i]=[]->cU p to n at_ met (i+1)=cU p to n at_ met i:=fun e=>by rw[hs,e];simp;exact jA9 hlen
    simp[fS,hP,zK,hI,h65,h65',h];intro _;refine⟨_,_,aX 2,?_⟩;simp[List.replicate,h,hne,yS h];refine yX hle (by simp[hP,zK]) (by simp[eC,zB]) ?_;have hz:Typ.zero.k=0:=rfl;cases hv:aF p (yO p)[i]with
    |none =>
     have hpe:=hskip (by simp[pM,zAm,hv]);simp[eC,zB,hz];refine⟨qV [(1,.sl (yO p).length (zT (yO p))),(4,.sl met.length (zT met)),(5,.ptr 0 0),(7,.ptr 1 0),(8,.ptr 2 0),(11,.row 3 (cU p to n at_ met i).length),(12,int i)],fS p at_ to (cU p to n at_ met i),mu [0,1,2,3] 0 (by rfl) (by simp[fS,hP,zK]),?_⟩;simp[fS,hP,zK];exact zO (i+1) h (by omega) (mu [0,1,2,3] 0 (by rfl) (by simp[fS,hP,zK,hpe,hw]))
    |some ab =>
     obtain⟨a,b⟩:=ab;by_cases ha:a.k=3
     .by_cases hb:b.k=3
      .have hed:zAm p (yO p)[i]=some ⟨(yO p)[i],a.id,b.id⟩:=by simp[zAm,hv,ha,hb]
       by_cases hfro:a.id=at_
       .by_cases hmet:b.id∈met
        .have hpe:=hskip (by simp[pM,hed,hmet]);simp[eC,zB,ha,hb,hfro,cW];refine mq (zKd met b.id) (by simp[zK]) ?_;simp[hmet];refine⟨qV [(1,.sl (yO p).length (zT (yO p))),(4,.sl met.length (zT met)),(5,.ptr 0 0),(7,.ptr 1 0),(8,.ptr 2 0),(11,.row 3 (cU p to n at_ met i).length),(12,int i)],fS p at_ to (cU p to n at_ met i),mu [0,1,2,3] 0 (by rfl) (by simp[fS,hP,zK]),?_⟩;simp[fS,hP,zK];exact zO (i+1) h (by omega) (mu [0,1,2,3] 0 (by rfl) (by simp[fS,hP,zK,hpe,hw]))
        .simp[eC,zB,ha,hb,hfro,cW];refine mq (zKd met b.id) (by simp[zK]) ?_;simp[hmet];refine⟨fun e=>(hme e).elim,fun _=>?_⟩;refine⟨⟨by simp[maxLen];omega,by omega⟩,⟨by simp[maxLen];omega,by omega⟩,?_⟩;have heL:(⟨(yO p)[i],a.id,b.id⟩:Edg)∈yA p:=by rw[zC2,jCs];exact⟨_,jA0 h,hed⟩
         have hlt:rN (yA p) (met++[b.id])<rN (yA p) met:=iI heL hmet;obtain⟨k,rfl⟩:∃k,n=k+1:=⟨n-1,by omega⟩;have c:=ih k rfl b.id (met++[b.id]) (by simp) (by omega) (by simp;omega);have hcm:zT (met++[b.id])=zT met++[int b.id.a,int b.id.b,int b.id.c]:=by simp[yK,zT]
         have hlm:(met++[b.id]).length=met.length+1:=by simp
         rw[hcm,hlm]at c;have hpart:pM p to (k+1) at_ met (yO p)[i]=(yY (yA p) to (k+1) b.id (met++[b.id])).map ((yO p)[i]::·):=by simp[pM,hed,hfro,hmet]
         rw[hpart,<-List.map_take]at hs;have hq:∀q∈(yY (yA p) to (k+1) b.id (met++[b.id])).take 65,q.length<=1000:=fun q hq=>by have:=zC3 _ _ _ q (jC5 hq);omega
         have hR:((yY (yA p) to (k+1) b.id (met++[b.id])).take 65).length<=65:=by rw[jAs];omega
         generalize (yY (yA p) to (k+1) b.id (met++[b.id])).take 65=R at *
         refine⟨_,_,zLC [_,_,_,_] (l:=6) rfl (cS c [] (by simp) trivial (by simp[hP,zK]) ⟨rfl,rfl⟩),?_⟩;simp;refine⟨_,_,m_ [0,1,2,3] 0 (by rfl) ?_ ?_,zZk p at_ to (yO p) met i h hcv (cU p to (k+1) at_ met i) R h65 hR hq _ fun E S hw'=>?_⟩
         .simp[fS,hP,zK]
         .simp
         .rw[<-hs]at hw';simp;refine⟨_,_,hw',?_⟩;simp[fS,hP,zK];exact zO (i+1) h (by omega) (mu [0,1,2,3] 0 (by rfl) (by simp[fS,hP,zK,hw]))
       .have hpe:=hskip (by simp[pM,hed,hfro]);simp[eC,zB,ha,hb,cW,hfro];refine⟨qV [(1,.sl (yO p).length (zT (yO p))),(4,.sl met.length (zT met)),(5,.ptr 0 0),(7,.ptr 1 0),(8,.ptr 2 0),(11,.row 3 (cU p to n at_ met i).length),(12,int i)],fS p at_ to (cU p to n at_ met i),mu [0,1,2,3] 0 (by rfl) (by simp[fS,hP,zK]),?_⟩;simp[fS,hP,zK];exact zO (i+1) h (by omega) (mu [0,1,2,3] 0 (by rfl) (by simp[fS,hP,zK,hpe,hw]))
      .have hpe:=hskip (by simp[pM,zAm,hv,hb]);simp[eC,zB,ha,hb];refine⟨qV [(1,.sl (yO p).length (zT (yO p))),(4,.sl met.length (zT met)),(5,.ptr 0 0),(7,.ptr 1 0),(8,.ptr 2 0),(11,.row 3 (cU p to n at_ met i).length),(12,int i)],fS p at_ to (cU p to n at_ met i),mu [0,1,2,3] 0 (by rfl) (by simp[fS,hP,zK]),?_⟩;simp[fS,hP,zK];exact zO (i+1) h (by omega) (mu [0,1,2,3] 0 (by rfl) (by simp[fS,hP,zK,hpe,hw]))
     .have hpe:=hskip (by simp[pM,zAm,hv,ha]);simp[eC,zB,ha];refine⟨qV [(1,.sl (yO p).length (zT (yO p))),(4,.sl met.length (zT met)),(5,.ptr 0 0),(7,.ptr 1 0),(8,.ptr 2 0),(11,.row 3 (cU p to n at_ met i).length),(12,int i)],fS p at_ to (cU p to n at_ met i),mu [0,1,2,3] 0 (by rfl) (by simp[fS,hP,zK]),?_⟩;simp[fS,hP,zK];exact zO (i+1) h (by omega) (mu [0,1,2,3] 0 (by rfl) (by simp[fS,hP,zK,hpe,hw]))
   .have h65':¬((cU p to n at_ met i).length:Int)<65:=by omega
    have hfull:=zMf p to n at_ met (i:=i) (by omega) hi
    rw[hfn]at hfull;simp[fS,hP,zK,hI,h65,h65',h];exact fun _=>zA 2 (by simp[<-hfull])
  .have hie:i=(yO p).length:=by omega
   subst hie;rw[hfn];simp[fS,hP,zK];exact fun _=>zA 2 (by simp)
theorem zNN(p:Prg)(hp:p.defs.length<=100)(hcv:(yO p).length<=100)(to:Id):∀n,zLr p to n
 | 0=>zGS p hp hcv to 0 (fun k e=>by omega)
 |n+1=>zGS p hp hcv to (n+1) (fun k e=>by
  have:k=n:=by omega
  subst this;exact zNN p hp hcv to k)
theorem zPS(hf:Fit p hs)(fro to:Id)(h64:(yM p fro to).length<=64):mv 21 [.agg (zP p),.agg (zK fro),.agg (zK to)] [] (eE p fro to) []:=by
 have hP:=eP p;have h8:=hf.len8;have hcv:(yO p).length<=100:=by have h1:=zNC p p.defs.length;rw[zNB]at h1;omega
 have hel:=zEC hf;have hfr:=zJK (L:=yA p) [fro];have hfrom:=zNN p (by omega) hcv to (yA p).length fro [fro] (by simp) hfr (by simp;omega);have hsame:yY (yA p) to ((yA p).length+1) fro [fro]=yM p fro to:=zLU _ _ _ _ _ (fun x=>Iff.rfl) (by omega) hfr;have htk:(yM p fro to).take 65=yM p fro to:=jA9 (by omega);rw[hsame,htk]at hfrom;have h64':¬(64:Int)<(yM p fro to).length:=by omega
 refine ml [] [.slot 6,.slot 7] func21 (by kernel_rfl) ?_
 (conv in kq _ _=>cbv)
 simp[hP,zK];refine mq (zFD p (by omega) fro) (by simp[hP,zK]) ?_;by_cases h1:bQ p fro=true
 .simp[h1];refine mq (zFD p (by omega) to) (by simp[hP,zK]) ?_;by_cases h2:bQ p to=true
  .simp[h2];refine z7 (zRu p (by omega)) (by simp[hP]) (by simp) ?_;simp;refine z7 hfrom (by simp[hP,zK,zT]) (by simp) ?_;simp[h64'];exact fun _=>zA 0 (by simp[eE,h1,h2])
  .have h2':bQ p to=false:=by simpa using h2
   simp[h2'];exact zA 0 (by simp[eE,h2'])
 .have h1':bQ p fro=false:=by simpa using h1
  simp[h1'];exact zA 0 (by simp[eE,h1'])
end Go.Proofs.YtdnelmeboihpkaaGreatDoor
