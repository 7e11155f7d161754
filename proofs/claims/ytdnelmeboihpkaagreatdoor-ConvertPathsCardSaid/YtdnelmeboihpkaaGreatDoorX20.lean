/- convert.paths and Paths. -/
import Derived.Test.YtdnelmeboihpkaaGreatDoorX19
set_option linter.unusedVariables false
set_option maxHeartbeats 8000000
set_option maxRecDepth 100000
set_option linter.unusedSimpArgs false
open Go.Proofs.Tryz
namespace Go.Proofs.YtdnelmeboihpkaaGreatDoor
open Go.Abs
def jM(l:List wF):wE:=l.map fun q=>.sl q.length (zP q)
@[simp]theorem zV1(l:List wF):(jM l).length=l.length:=by simp[jM]
@[simp]theorem zV2:jM []=[]:=rfl
theorem mW(a b:List wF):jM (a++b)=jM a++jM b:=by simp[jM]
theorem iA(q:wF)(l:List wF):jM (q::l)=.sl q.length (zP q)::jM l:=rfl
theorem oN:∀(l:List wF),qP (jM l)
 |[]=>qP.nil
 |q::l=>qP.sl (dS q) (oN l)
@[simp]theorem zTK(l:List wF):jH (jM l)=jM l:=(oN l).1
@[simp]theorem zYV{rf g}(l:List wF):vwL rf g (jM l)=jM l:=(oN l).2 _ _
@[simp]theorem zIa:∀(l:List wF) (k:Nat),dK k (jM l)=true
 |[],_=>rfl
 |q::l,k=>by rw[iA];simp[zIa l k]
variable{i:Nat}
theorem iB{l:List wF}(h:i<l.length):(jM l).drop i=.sl l[i].length (zP l[i])::jM (l.drop (i+1)):=by rw[jM,<-List.map_drop,jB0 h];rfl
@[simp]theorem zWH(l:List Md)(k:Nat):dK k (qO l)=true:=(rI l).bnd k
@[simp]theorem zWG(l:wP)(k:Nat):dK k (z7 l)=true:=(rD l).bnd k
@[simp]theorem qCv(d:Id)(k:Nat):dK k (zG d)=true:=by simp[zG]
theorem zND(p:Prg)(fro to:Id):my 53 [.agg (zT p),.agg (zG fro),.agg (zG to)] [] (.clo 97 [] [.rptr (zT p),.rptr (zG fro),.rptr (zG to)]) []:=by
 refine mq [] [.slot 6] func53 (by kernel_rfl) ?_
 (conv in kq _ _=>cbv)
 simp[zT,zG];exact zA 1 (by simp)
@[simp]theorem zSO:zC prog 97=true:=by kernel_rfl
@[simp]theorem qGV:zC prog 99=true:=zSP
def yY(p:Prg)(fro to:Id):List wF:=yP (jV p) to (jV p).length fro [fro]
variable{p:Prg}{hs:wO}
theorem zD6(hf:Fit p hs):(jV p).length<=100:=by
 have h1:(jV p).length=(fY p).length:=by rw[<-lR hf];exact(fL _).length_eq
 have h2:=jDf jZ p.defs;have h3:=hf.len8;unfold fY at h1;omega
theorem zLz(hf:Fit p hs)(fro to:Id):zMg prog 97 [] [.rptr (zT p),.rptr (zG fro),.rptr (zG to)] ((yY p fro to).map fun q=>[.sl q.length (zP q)]):=by
 refine uD fun b m T hT hY=>?_
 have h0:=hT 0 (jB3 _);have hn:=hT _ (jA _);have hP:=eP p;have hL:=zD6 hf;have hm1:putI [fro.a,fro.b,fro.c] (.lit (.bool true)) []=mrk [fro]:=rfl;have hvis:=zOO (L:=jV p) (by omega) to b m T _ hT hY (jV p).length fro [fro] [] true 0 (zID _) (by simp;omega) (by simp[yY]) (fun q hq hqx=>by simp[yY]);refine mj [15] [] [] [] func97 (by kernel_rfl) ?_
 (conv in kH _ _ _=>cbv)
 simp[h0.1,aN h0.1,hP];refine mu (zQp hf) (by simp[hP]) ?_;simp[h0.1,aD h0.1,aN h0.1,cG h0.1,zBg h0.1,zG,hm1,jBp];have hw:=yU (n0:=m) (env:=qK [(2,.rptr (zG fro)),(8,.ptr (m+5) 0)]) (l:=m+4) (o:=0) (U:=T 0++[AObj.box [yv b],.box [.sl (jV p).length (yO (jV p))],.mp true 3 (mrk [fro]),.box [.map (m+2)],.box [.nil],
  .box [.clo 99 [] [.rptr (zG to),.ptr m 0,.ptr (m+4) 0,.ptr (m+1) 0,.ptr (m+3) 0,.ptr (m+5) 0]]]) (by rw[aD h0.1];rfl) rfl 31 3
 rw[cG h0.1,jAp,jA5,h0.1]at hw;refine⟨_,_,(zG0 (c:=0) h0 rfl [0,1,2,3,4,5] 0 (by simp) (by decide) (by simp[zG]) (by simp[zG])).trans hw,?_⟩;simp[h0.1,aD h0.1,aN h0.1];rw[jAz]at hvis;have hn':Cl m (T (yP (jV p) to (jV p).length fro [fro]).length):=by simpa[yY]using hn
 refine zPV h0 hn' hvis [0,1,2,3,4,5,6] (by decide) (by simp[zFv,mL,zG]) (by simp[zDc,zG]) ?_;simp;exact zH4 hn' (by simp)
def fZ(p:Prg)(fro to:Id):A:=if bE p fro=true/\bE p to=true then .tup [.sl (yY p fro to).length (jM (yY p fro to)),int 0]else .tup [.sl 0 [],int 6]
theorem zAp(hf:Fit p hs)(fro to:Id)(h64:(yY p fro to).length<=64):my 20 [.agg (zT p),.agg (zG fro),.agg (zG to)] [] (fZ p fro to) []:=by
 have hP:=eP p;refine mq [] [.cell 6 1 false,.cell 7 1 false] func20 (by kernel_rfl) ?_
 (conv in kq _ _=>cbv)
 simp[hP,zG];refine mu (zG5 p fro) (by simp[hP,zG]) ?_;by_cases h1:bE p fro=true
 .simp[h1];refine mu (zG5 p to) (by simp[hP,zG]) ?_;by_cases h2:bE p to=true
  .simp[h2];refine mu (zND p fro to) (by simp[hP,zG]) ?_;simp;refine⟨[(6,.ptr 3 0),(7,.ptr 4 0),(8,.ptr 5 0),(23,.clo 97 [] [.rptr (zT p),.rptr (zG fro),.rptr (zG to)])],7,(yY p fro to).map (fun q=>[.sl q.length (zP q)]),
    fun j=>[.box (zT p),.box (zG fro),.box (zG to),.box [.sl 0 []],.box [int 0],.box [.row 6 j],.row false 28 1 j (jM ((yY p fro to).take j))],97,[],[.rptr (zT p),.rptr (zG fro),.rptr (zG to)],by simp[hP,zG],zSO,zLz hf fro to,?_,by omega,?_,by simp[hP,zG],by simp,?_,?_⟩
   .exact(yU (l:=5) (o:=0) rfl rfl 28 1).trans (mw [0,1,2,3,4,5,6] 0 (by rfl) (by simp[hP,zG]))
   .intro i hi;simp[hP,zG]
   .intro i hi b' M r r';simp only[jAd]at hi;have htk:(yY p fro to).take (i+1)=(yY p fro to).take i++[(yY p fro to)[i]]:=jA8 hi;have hne:¬((i:Int)=64):=by omega
    simp[hne];exact⟨⟨by simp[maxLen];omega,by omega⟩,Wk.here (by rw[htk,mW];rfl)⟩
   .have htk:(yY p fro to).take (yY p fro to).length=yY p fro to:=jAr;simp[htk];exact zA 1 (by simp[fZ,h1,h2])
  .have h2':bE p to=false:=by simpa using h2
   simp[h2'];exact zA 0 (by simp[fZ,h2'])
 .have h1':bE p fro=false:=by simpa using h1
  simp[h1'];exact zA 0 (by simp[fZ,h1'])
theorem zO3(x y:Id):my 124 [.agg (zG x),.agg (zG y)] [] (bl (bP x y)) []:=by
 refine mq [] [.slot 4] func124 (by kernel_rfl) ?_
 (conv in kq _ _=>cbv)
 by_cases h1:x.a=y.a
 .by_cases h2:x.b=y.b
  all_goals
   simp[zG,h1,h2];exact zA 0 (by simp[bP,h1,h2])
 .simp[zG,h1];exact zA 0 (by simp[bP,h1])
theorem zIW(l:wF)(x:Id):my 33 [.sl l.length (zP l),.agg (zG x)] [] (bl (decide (x∈l))) []:=by
 refine mq [] [.slot 4] func33 (by kernel_rfl) ?_
 (conv in kq _ _=>cbv)
 simp[zG];refine qM (S:=Nat) (fun i=>[(0,.sl l.length (zP l)),(3,.ptr 0 0),(5,int i)]) (fun s=>[.box (zG x)]) (fun i=>i<=l.length/\x∉l.take i) (fun i=>l.length-i) 0 (by simp)
  (mw [0] 0 (by rfl) (by simp[zG])) ?_
 rintro i ⟨hi,hn⟩;by_cases h:i<l.length
 .simp[h,yC h,zG];intro hl;refine qY (fun h'=>?_) (fun h'=>?_)<;>simp at h'<;>simp
  .have hx:l[i]=x:=h';exact zA 0 (by simp[<-hx])
  .have hx:l[i]≠x:=h';refine zN (i+1) ⟨h,?_⟩ (by omega) (mw [0] 0 (by rfl) (by simp[zG,z6 h hl]));rw[jA8 h];simp only[jAa,jAl,not_or];exact⟨hn,fun e=>hx e.symm⟩
 .have:i=l.length:=by omega
  subst this;simp;rw[jAr]at hn;exact fun _=>zA 0 (by simp[hn])
theorem zOV(a b:wF):my 31 [.sl a.length (zP a),.sl b.length (zP b)] [] (bl (decide (a=b))) []:=by
 refine mq [] [.slot 4] func31 (by kernel_rfl) ?_
 (conv in kq _ _=>cbv)
 by_cases hab:a.length=b.length
 .have hab':(a.length:Int)=b.length:=by omega
  simp[hab];intro hlb;refine qM (S:=Nat) (fun i=>[(0,.sl a.length (zP a)),(1,.sl b.length (zP b)),(5,int i)]) (fun s=>[]) (fun i=>i<=a.length/\a.take i=b.take i) (fun i=>a.length-i) 0 (by simp)
   (mw [] 0 (by rfl) (by simp[hab])) ?_
  rintro i ⟨hi,hn⟩;by_cases h:i<a.length
  .have hb:i<b.length:=by omega
   simp[h,hb,yC h,yC hb];intro hl;refine qY (fun h'=>?_) (fun h'=>?_)<;>simp at h'<;>simp
   .have hx:a[i]≠b[i]:=fun e=>by rw[e]at h';simp at h'
    have hne:a≠b:=fun e=>hx (by subst e;rfl)
    exact zA 0 (by simp[hne])
   .have hx:a[i]=b[i]:=h';refine zN (i+1) ⟨h,?_⟩ (by omega) (mw [] 0 (by rfl) (by simp[z6 h hl]));rw[jA8 h,jA8 hb,hn,hx]
  .have:i=a.length:=by omega
   subst this;simp;have:a=b:=by rw[jAr,hab,jAr]at hn;exact hn
   exact fun _=>zA 0 (by simp[this])
 .have hne:a≠b:=fun e=>hab (by rw[e])
  have hab':¬(a.length:Int)=b.length:=by omega
  simp[hab'];exact fun _ _=>zA 0 (by simp[hne])
def gW(x:Id)(s:wF×Bool)(y:Id):wF×Bool:=((s.1++(if s.2=false/\bP y x=false then [x]else []))++(if y=x then []else [y]),s.2||!bP y x)
def zJc(x:Id)(s:wF×Bool):wF:=if s.2 then s.1 else s.1++[x]
theorem zJd(x:Id):∀(l:wF) (s:wF×Bool),(l.foldl (gW x) s).1.length<=s.1.length+2*l.length
 |[],s=>by simp
 |y::l,s=>by
  have:=zJd x l (gW x s y);have h2:(gW x s y).1.length<=s.1.length+2:=by unfold gW;simp only[jA5];split<;>split<;>simp
  simp only[jBk,jAb];omega
theorem zBL(x:Id):∀(l:wF) (o:wF),x∉l->l.foldl (gW x) (o,true)=(o++l,true)
 |[],o,_=>by simp
 |y::l,o,h=>by
  have hy:y≠x:=fun e=>h (by simp[e])
  have:=zBL x l (o++[y]) (fun e=>h (by simp[e]));simp only[jBk,gW,Bool.true_eq_false,false_and,if_false,if_neg hy,jB8,Bool.true_or,this,jAp,jCw]
theorem zMK(x:Id):∀(l:wF) (o:wF),SS l->zJc x (l.foldl (gW x) (o,false))=o++lV l x
 |[],o,_=>by simp[zJc,lV]
 |y::l,o,h=>by
  obtain⟨h1,h2⟩:=jBh.1 h;by_cases hl:bP y x=true
  .have hy:y≠x:=fun e=>by subst e;simp[bP]at hl
   have:=zMK x l (o++[y]) h2;simp only[jBk,gW,hl,Bool.not_true,Bool.or_false,if_neg hy,lV,if_true];simp only[Bool.true_eq_false,and_false,if_false,jB8];rw[this];simp
  .have hl':bP y x=false:=by simpa using hl
   have hn:x∉l:=fun hx=>by have:=h1 x hx;rw[hl']at this;cases this
   simp only[jBk,gW,hl',Bool.not_false,Bool.or_true,and_self,if_true,lV,jAi,if_false];by_cases hy:y=x
   .subst hy;rw[zBL _ _ _ hn];simp[zJc]
   .rw[if_neg hy,if_neg hy,zBL _ _ _ hn];simp[zJc]
theorem zRe(l:wF)(x:Id)(hl6:l.length<=1000):my 82 [.sl l.length (zP l),.agg (zG x)] [] (.sl (zJc x (l.foldl (gW x) ([],false))).length (zP (zJc x (l.foldl (gW x) ([],false))))) []:=by
 refine mq [] [.slot 4] func82 (by kernel_rfl) ?_
 (conv in kq _ _=>cbv)
 simp[zG];refine qM (S:=Nat) (fun i=>[(0,.sl l.length (zP l)),(3,.ptr 0 0),(5,.row 1 ((l.take i).foldl (gW x) ([],false)).1.length),(6,bl ((l.take i).foldl (gW x) ([],false)).2),(7,int i)]) (fun i=>[.box (zG x),.row false 31 3 ((l.take i).foldl (gW x) ([],false)).1.length (zP ((l.take i).foldl (gW x) ([],false)).1)]) (fun i=>i<=l.length) (fun i=>l.length-i) 0 (by simp)
  ((jW (t:=5) (by simp) 31 3).trans (mw [0,1] 0 (by rfl) (by simp[zG]))) ?_
 intro i hi;have hmx:l.length<=maxLen:=by simp[maxLen];omega
 have hsl:=zJd x (l.take i) ([],false);rw[jAq]at hsl;by_cases h:i<l.length
 .have hst:(l.take (i+1)).foldl (gW x) ([],false)=gW x ((l.take i).foldl (gW x) ([],false)) l[i]:=by rw[jA8 h,jCf];rfl
  generalize (l.take i).foldl (gW x) ([],false)=s at *
  obtain⟨o,d⟩:=s;simp only[jBc]at hsl;have hne:l≠[]:=fun e=>by rw[e]at h;simp at h
  have less:=zO3 l[i] x;cases d
  .cases hls:bP l[i] x
   .simp[h,yC h,zG,hne];intro _;refine zZ less (by simp[zG]) (by simp) ?_;by_cases hx:l[i]=x
    .simp[h,yC h,zG,hne,hx,dZ];refine⟨⟨by simp[maxLen];omega,by omega⟩,?_⟩;exact zN (i+1) h (by omega) (mw [0,1] 0 (by rfl) (by simp[zG,hst,gW,hx,dZ,j9,zP,z6 h hmx]))
    .simp[hls,h,yC h,zG,hne,hx];refine⟨⟨by simp[maxLen];omega,by omega⟩,?_⟩;refine⟨⟨by simp[maxLen];omega,by omega⟩,?_⟩;exact zN (i+1) h (by omega) (mw [0,1] 0 (by rfl) (by simp[zG,hst,gW,hx,hls,j9,zP,z6 h hmx]))
   .have hx:¬l[i]=x:=fun e=>by rw[e,dZ]at hls;cases hls
    simp[h,yC h,zG,hne];intro _;refine zZ less (by simp[zG]) (by simp) ?_;simp[hls,h,yC h,zG,hne,hx];refine⟨⟨by simp[maxLen];omega,by omega⟩,?_⟩;exact zN (i+1) h (by omega) (mw [0,1] 0 (by rfl) (by simp[zG,hst,gW,hx,hls,j9,zP,z6 h hmx]))
  .by_cases hx:l[i]=x
   .simp[h,yC h,zG,hne,hx];intro _;exact zN (i+1) h (by omega) (mw [0,1] 0 (by rfl) (by simp[zG,hst,gW,hx,j9,zP,z6 h hmx]))
   .simp[h,yC h,zG,hne,hx];intro _;refine⟨⟨by simp[maxLen];omega,by omega⟩,?_⟩;exact zN (i+1) h (by omega) (mw [0,1] 0 (by rfl) (by simp[zG,hst,gW,hx,j9,zP,z6 h hmx]))
 .have hie:i=l.length:=by omega
  subst hie;rw[jAr]at *
  generalize l.foldl (gW x) ([],false)=s at *
  obtain⟨o,d⟩:=s;cases d
  .simp[zG];intro _;have hsl2:o.length<=2*l.length:=by simpa using hsl
   refine⟨⟨by simp[maxLen];omega,by omega⟩,?_⟩;exact zA 1 (by simp[zJc,j9,zP])
  .simp[zG];exact fun _=>zA 1 (by simp[zJc])
theorem zRf{l:wF}(h:SS l)(x:Id)(hl:l.length<=1000):my 82 [.sl l.length (zP l),.agg (zG x)] [] (.sl (lV l x).length (zP (lV l x))) []:=by have:=zRe l x hl;rw[zMK x l [] h]at this;exact this
def zQW:Nat->Option wD:=fun|5=>k_ [1,1,1,0,1,1,1,1,0,0,0,0,302,303,0,0,0]|_=>none
def cvI(p:Prg)(i:Nat):wF:=(((p.defs.take i).filter fun d=>(yJ p d.id).isSome).map (·.id)).foldl lV []
theorem zQg(p:Prg)(i:Nat):SS (cvI p i):=zDG List.Pairwise.nil
theorem zMy(p:Prg)(i:Nat):(cvI p i).length<=i:=by have h1:=zMp (((p.defs.take i).filter fun d=>(yJ p d.id).isSome).map (·.id)) [];have h2:=jCi (fun d=>(yJ p d.id).isSome) (p.defs.take i);simp only[jAd,jAq,jBc]at h1 h2;unfold cvI;omega
theorem zMx(p:Prg):cvI p p.defs.length=yG p:=by
 refine(zQg p _).unique (zHA _) fun x=>?_
 unfold cvI yG;rw[zBE,zEG,jAr];simp
theorem zQh(p:Prg)(h:i<p.defs.length):cvI p (i+1)=if (yJ p p.defs[i].id).isSome then lV (cvI p i) p.defs[i].id else cvI p i:=by
 unfold cvI;rw[jA8 h,jD8,jBl,jCf];by_cases hs:(yJ p p.defs[i].id).isSome=true
 .simp[List.filter,hs]
 .simp[List.filter,hs]
theorem zQf(p:Prg)(hp:p.defs.length<=100):my 35 [.agg (zT p)] [] (.sl (yG p).length (zP (yG p))) []:=by
 have hP:=eP p;refine ml zQW [16] [] [] [.slot 2] func35 (by kernel_rfl) ?_
 (conv in kH _ _ _=>cbv)
 simp[hP];refine qM (S:=Nat) (fun i=>[(1,.ptr 0 0),(3,.sl (cvI p i).length (zP (cvI p i))),(4,int i)]) (fun i=>[.box (zT p)]) (fun i=>i<=p.defs.length) (fun i=>p.defs.length-i) 0 (by simp)
  (mw [0] 0 (by rfl) (by simp[hP,cvI,zP])) ?_
 intro i hi;by_cases h:i<p.defs.length
 .have hl:=zMy p i;have hs:=zQh p h;have hd:=j6 h;have hne:p.defs≠[]:=fun e=>by rw[e]at h;simp at h
  have hw:=z6 h (show p.defs.length<=maxLen by simp[maxLen];omega);have hle:=zDS p (by omega) p.defs[i].id;have hins:=zRf (zQg p i) p.defs[i].id (by omega);simp[hP,h];intro _;refine⟨_,_,aG 3,?_⟩;simp[List.replicate,h,hd,hne,zI];refine aO hle (by simp[hP,zG]) (by simp[bT,zB]) ?_;cases hv:yJ p p.defs[i].id with
  |none =>
   rw[hv]at hs;simp[bT,zB];exact zN (i+1) h (by omega) (mw [0] 0 (by rfl) (by simp[hP,hs,hw]))
  |some ab =>
   rw[hv]at hs;simp[bT,zB,h,hd,hne,zI];refine mu hins (by simp[zG]) ?_;simp;exact zN (i+1) h (by omega) (mw [0] 0 (by rfl) (by simp[hP,hs,hw]))
 .have hie:i=p.defs.length:=by omega
  subst hie;simp[hP];rw[zMx]
  first|exact fun _=>zA 0 (by simp)|exact zA 0 (by simp)
def zKi:K:=(G [D 29 6 13,L 30 29 1,kN 31 30,kMi 32 0] (K.block 0 (K.loop (G [kB 33 32 31 .lss] (Z (Y 33 ks (K.exit 0)) (Z (K.block 1 (G [kX 34 30 32 15,J 35 34 15,kZ 9 kz1,S 9 35 15] (Z (K.dops [(0,0,D 36 6 3),(1,0,L 37 36 1),(2,0,kQi 38 37 8 false),(3,0,M 39 38),(4,0,T 39 true (D 40 9 3)),(5,0,T 39 true (L 41 40 1)),(6,0,T 39 true (kQi 42 41 2 false)),(7,0,kPf 43 39 42),(8,0,M 44 43),(9,0,T 44 true (D 45 9 5)),(10,0,T 44 true (J 46 45 3)),(11,0,T 44 true (D 47 2 8)),(12,0,T 44 true (L 48 47 1)),(13,0,T 44 true (kXi 49 48 11 0)),(14,0,T 44 true (D 50 49 0)),(15,0,T 44 true (J 51 50 3)),(16,0,⟨some (44,true),.eqs (some 52) false [.i,.i,.i] (kt 46) (kt 51)⟩),(17,0,kPf 53 44 52),(18,0,M 10 53)]) (Z (G [M 54 10] (Y 54 (K.ops [L 55 4 1,D 56 6 4,L 57 56 1,⟨none,.mop none (.set 1) [(kt 55),(kt 57),(.const (.bool true))]⟩]) ks)) (K.ops [L 58 5 1,J 59 9 15,M 60 10,⟨none,.call (some 61) (kt 58) [(kt 59),(kt 60)]⟩]))))) (K.ops [kBi 62 32 1 .add,M 32 62])))))))
def zUE:K:=G [kO 6 0] (Z (Z (K.dops [(0,0,D 11 6 3),(1,0,L 12 11 1),(2,0,kQi 13 12 2 false),(3,0,M 14 13),(4,0,T 14 true (D 15 6 5)),(5,0,T 14 true (J 16 15 3)),(6,0,T 14 true (D 17 2 8)),(7,0,T 14 true (L 18 17 1)),(8,0,T 14 true (kXi 19 18 11 0)),(9,0,T 14 true (D 20 19 0)),(10,0,T 14 true (J 21 20 3)),(11,0,⟨some (14,true),.eqs (some 22) false [.i,.i,.i] (kt 16) (kt 21)⟩),(12,0,kPf 23 14 22)]) (Y 23 (K.ops [L 24 3 1,M 25 24,T 25 false (M 26 1),T 25 false (kR 27 26),kPt 28 25 27,S 3 28 1]) ks)) (K.wk zKi))
theorem qCM:ky f58 zUE:=m_ (by kernel_rfl)
def mki(l:wB):List (wB×A):=l.map fun x=>([x],.lit (.bool true))
def adI(l:wB)(x:Int):wB:=if x∈l then l else l++[x]
theorem zSA{l:wB}{x y:Int}:y∈adI l x↔y∈l\/y=x:=by
 unfold adI;split
 .rename_i h;exact⟨.inl,fun hh=>hh.elim id fun e=>e▸h⟩
 .simp
theorem zHR{y:Int}:∀(m l:wB),y∈m.foldl adI l↔y∈l\/y∈m
 |[],l=>by simp
 |x::m,l=>by rw[jBk,zHR m,zSA,jA1];exact or_assoc
theorem zMV(x:Int):∀l:wB,Go.Abs.putI [x] (.lit (.bool true)) (mki l)=mki (adI l x)
 |[]=>rfl
 |y::l=>by
  have ih:=zMV x l;simp only[mki,jAg,Go.Abs.putI]at ih ⊢;by_cases h:y=x
  .subst h;simp[adI]
  .have h':¬[y]=[x]:=fun e=>h (by simpa using e)
   have h2:¬x=y:=fun e=>h e.symm
   rw[if_neg h',ih];unfold adI;by_cases hx:x∈l
   .simp[hx]
   .simp[hx,h2]
theorem zJt(x:Int):∀l:wB,eU [x] (mki l)=if x∈l then some (.lit (.bool true))else none
 |[]=>rfl
 |y::l=>by
  have ih:=zJt x l;simp only[mki,jAg,eU]at ih ⊢;by_cases h:y=x
  .subst h;simp
  .have h':¬[y]=[x]:=fun e=>h (by simpa using e)
   have h2:¬x=y:=fun e=>h e.symm
   rw[if_neg h',ih];simp[h2]
theorem zTC(x:Int)(l:wB):rX (Value.bool false) false (eU [x] (mki l))=.lit (.bool (decide (x∈l))):=by rw[zJt];split<;>rename_i h<;>simp[rX,h,qZ,sC]
@[simp]theorem qLk{rf g}(l:wB):(mki l).map (fun p=>(p.1,vw rf g p.2))=mki l:=by unfold mki;rw[jCg];rfl
def fvS(D:wE)(w:Bool)(l:wB):St:=[.box [bl w],.box [.map 2],.mp false 1 (mki l),.box [.clo 58 [] [.rptr D,.ptr 0 0,.ptr 1 0,.ptr 3 0]]]
def fvA(D:wE)(e:Exp)(f:Bool):wE:=[.agg (zH e),bl f,.rptr D,.ptr 0 0,.ptr 1 0,.ptr 3 0]
def zPk(D:wE)(s:Id)(e:Exp):Prop:=∀(f w:Bool) (l:wB),my 58 (fvA D e f) (fvS D w l) (.tup []) (fvS D (w||eE s e f) ((gL s e).foldl adI l))
theorem zMa(s:Id)(e:Exp)(f:Bool):eE s e f=((decide (e.k=2)&&decide (e.ref=s)&&!f)||cJ s (decide (e.k=8)) e.kids):=by cases e;rfl
theorem zRz(s:Id)(e:Exp):gL s e=iL s (decide (e.k=8)) e.n e.kids:=by cases e;rfl
theorem zCK(s:Id)(f:Bool):∀(l:wG) {i:Nat} (h:i<l.length),cJ s f (l.take (i+1))=(cJ s f (l.take i)||eE s l[i] (f&&isS s l[i]))
 |[],i,h=>by simp at h
 |e::l,0,_=>by simp[cJ]
 |e::l,i+1,h=>by simp only[jC9,cJ,jDd];rw[zCK s f l (by simpa using h),Bool.or_assoc]
theorem zGh(s:Id)(f:Bool)(n:Int):∀(l:wG) {i:Nat} (h:i<l.length),iL s f n (l.take (i+1))=iL s f n (l.take i)++((if (f&&isS s l[i])=true then [n]else [])++gL s l[i])
 |[],i,h=>by simp at h
 |e::l,0,_=>by simp[iL]
 |e::l,i+1,h=>by simp only[jC9,iL,jDd];rw[zGh s f n l (by simpa using h)];simp
theorem zHj(s:Id)(k:Exp):isS s k=(decide (k.k=2)&&decide (k.ref=s)):=rfl
theorem zXJ(D D':wE)(u:Slt)(hD:D.drop 8=.sl 1 (j4 u)::D')(hv:∀rf g,vwL rf g D=D)(hn:jH D=D)(e:Exp)(ih:∀k∈e.kids,zPk D u.id k)(f w:Bool)(l:wB) :
 wpK prog 4 zKi (fin [] (s8 4 (.tup []) (fvS D (w||cJ u.id (decide (e.k=8)) e.kids) ((iL u.id (decide (e.k=8)) e.n e.kids).foldl adI l)))) (qK [(2,.rptr D),(3,.ptr 0 0),(4,.ptr 1 0),(5,.ptr 3 0),(6,.ptr 4 0)]) (fvS D w l++[.box (zH e)]):=by
 obtain⟨b8,hb8⟩:∃b,b=decide (e.k=8):=⟨_,rfl⟩;rw[<-hb8];unfold zKi;simp[fvS,zH];intro hmx;refine qM (S:=Nat) (fun i=>[(2,.rptr D),(3,.ptr 0 0),(4,.ptr 1 0),(5,.ptr 3 0),(6,.ptr 4 0),(30,.sl e.kids.length (qL e.kids)),(31,int e.kids.length),(32,int i)])
  (fun i=>fvS D (w||cJ u.id b8 (e.kids.take i)) ((iL u.id b8 e.n (e.kids.take i)).foldl adI l)++[.box (zH e)]) (fun i=>i<=e.kids.length) (fun i=>e.kids.length-i) 0 (by simp)
  (mw [0,1,2,3,4] 0 (by rfl) (by simp[fvS,hv,zH,cJ,iL])) ?_
 intro i hi;by_cases h:i<e.kids.length
 .have hw:=z6 h hmx;have hwt:=zCK u.id b8 e.kids h;have hmt:=zGh u.id b8 e.n e.kids h;have hne:¬e.kids=[]:=fun e'=>by rw[e']at h;simp at h
  have hk:=ih e.kids[i] (jA3 h);generalize hww:(w||cJ u.id b8 (e.kids.take i))=wi at *
  generalize hll:(iL u.id b8 e.n (e.kids.take i)).foldl adI l=li at *
  have fold1:∀own:Bool,(b8&&isS u.id e.kids[i])=own->(iL u.id b8 e.n (e.kids.take (i+1))).foldl adI l=(gL u.id e.kids[i]).foldl adI (if own then adI li e.n else li):=fun own ho=>by rw[hmt,jCf,jCf,hll,ho];cases own<;>rfl
  have whole1:∀own:Bool,(b8&&isS u.id e.kids[i])=own->(w||cJ u.id b8 (e.kids.take (i+1)))=(wi||eE u.id e.kids[i] own):=fun own ho=>by rw[hwt,ho,<-Bool.or_assoc,hww]
  have hput:=zMV e.n li;by_cases c8:e.k=8
  .by_cases ck:e.kids[i].k=2
   .by_cases cr:e.kids[i].ref=u.id
    .have ho:(b8&&isS u.id e.kids[i])=true:=by simp[hb8,zHj,c8,ck,cr]
     have e1:=fold1 _ ho;have e2:=whole1 _ ho;have hc:=hk true wi (adI li e.n);simp[fvS,zH,h,hne,yT h,c8,ck,cr,hD,j4,cC,hput];refine mr hc [0,1,2,3] (by simp[fvS,hv,fvA,zH,ck,cr]) ?_;simp[fvS];exact zN (i+1) h (by omega) (mw [0,1,2,3,4] 0 (by rfl) (by simp[fvS,hv,zH,e1,e2,c8,hw]))
    .have ho:(b8&&isS u.id e.kids[i])=false:=by simp[zHj,cr]
     have e1:=fold1 _ ho;have e2:=whole1 _ ho;have hc:=hk false wi li;simp[fvS,zH,h,hne,yT h,c8,ck,cr,hD,j4,cC];refine mr hc [0,1,2,3] (by simp[fvS,hv,fvA,zH,ck]) ?_;simp[fvS];exact zN (i+1) h (by omega) (mw [0,1,2,3,4] 0 (by rfl) (by simp[fvS,hv,zH,e1,e2,c8,hw]))
   .have ho:(b8&&isS u.id e.kids[i])=false:=by simp[zHj,ck]
    have e1:=fold1 _ ho;have e2:=whole1 _ ho;have hc:=hk false wi li;simp[fvS,zH,h,hne,yT h,c8,ck];refine mr hc [0,1,2,3] (by simp[fvS,hv,fvA,zH,c8]) ?_;simp[fvS];exact zN (i+1) h (by omega) (mw [0,1,2,3,4] 0 (by rfl) (by simp[fvS,hv,zH,e1,e2,c8,hw]))
  .have ho:(b8&&isS u.id e.kids[i])=false:=by simp[hb8,c8]
   have e1:=fold1 _ ho;have e2:=whole1 _ ho;have hc:=hk false wi li;simp[fvS,zH,h,hne,yT h,c8];refine mr hc [0,1,2,3] (by simp[fvS,hv,fvA,zH,c8]) ?_;simp[fvS];exact zN (i+1) h (by omega) (mw [0,1,2,3,4] 0 (by rfl) (by simp[fvS,hv,zH,e1,e2,c8,hw]))
 .have hie:i=e.kids.length:=by omega
  subst hie;rw[jAr];simp[fvS,zH];exact mv [0,1,2,3] 0 (by rfl) (by simp[hv])
theorem zNV(D D':wE)(u:Slt)(hD:D.drop 8=.sl 1 (j4 u)::D')(hv:∀rf g,vwL rf g D=D)(hn:jH D=D)(e:Exp)(ih:∀k∈e.kids,zPk D u.id k):zPk D u.id e:=by
 intro f w l;rw[zMa,zRz];refine zJ func58 rfl qCM (rs:=[]) (by kernel_rfl) ?_;unfold zUE;rw[<-Bool.or_assoc,show (fvS D w l).length=4 from rfl];have hL:=zXJ D D' u hD hv hn e ih f;have hl8:1<=D.length-8:=by rw[<-jCh,hD];simp
 by_cases c1:e.k=2
 .by_cases c2:e.ref=u.id
  .have key:(decide (e.k=2)&&decide (e.ref=u.id)&&!f) = !f:=by simp[c1,c2]
   rw[key];have hL':=hL (w||!f) l;generalize s8 4 (.tup []) (fvS D (w||!f||cJ u.id (decide (e.k=8)) e.kids) ((iL u.id (decide (e.k=8)) e.n e.kids).foldl adI l))=Q at hL' ⊢;cases w
   .cases f
    all_goals
     simp[fvA,fvS,zH,c1,c2,hD,j4,cC];refine⟨_,_,kf [0,1,2,3,4] 0 (by rfl) ?_ ?_,hL'⟩
     .simp[fvS,hv,zH,c1,c2]
     .simp[hv]
   .simp[fvA,fvS,zH,c1,c2,hD,j4,cC];refine⟨_,_,kf [0,1,2,3,4] 0 (by rfl) ?_ ?_,hL'⟩
    .simp[fvS,hv,zH,c1,c2]
    .simp[hv]
  .have key:(decide (e.k=2)&&decide (e.ref=u.id)&&!f)=false:=by simp[c2]
   rw[key,Bool.or_false];have hL':=hL w l;generalize s8 4 (.tup []) (fvS D (w||cJ u.id (decide (e.k=8)) e.kids) ((iL u.id (decide (e.k=8)) e.n e.kids).foldl adI l))=Q at hL' ⊢;simp[fvA,fvS,zH,c1,c2,hD,j4,cC];refine⟨_,_,kf [0,1,2,3,4] 0 (by rfl) ?_ ?_,hL'⟩
   .simp[fvS,hv,zH,c1]
   .simp[hv]
 .have key:(decide (e.k=2)&&decide (e.ref=u.id)&&!f)=false:=by simp[c1]
  rw[key,Bool.or_false];have hL':=hL w l;generalize s8 4 (.tup []) (fvS D (w||cJ u.id (decide (e.k=8)) e.kids) ((iL u.id (decide (e.k=8)) e.n e.kids).foldl adI l))=Q at hL' ⊢;simp[fvA,fvS,zH,c1,hD];refine⟨_,_,kf [0,1,2,3,4] 0 (by rfl) ?_ ?_,hL'⟩
  .simp[fvS,hv,zH]
  .simp[hv]
def zQX:Nat->Option wD:=fun|7=>k_ [0,0,2,2001,0,0,1001,0,4,0] | 10=>k_ [0,0,0,2,2,0,2001,0,0,0,0,0,0,1001,0,4,0] | 13=>k_ [0,0,0,2,2,0,2001,0,0,0,0,0,0,1001,0,4,0] | 17=>k_ [0,0,2001,2001,0,0,0,0,0,0,1001,0,4,0]|_=>none
theorem uB(k:Int):my 64 [int k] [] (.agg (zG (idR k))) []:=by
 refine mq [] [.cell 2 3 true] func64 (by kernel_rfl) ?_
 (conv in kq _ _=>cbv)
 simp;exact zA 0 (by simp[zG,idR])
def gB(l:wB)(m:Gm):wE:=[.sl l.length (jQ l),int m.at_,int m.next]
def gS(l:wB)(m:Gm):St:=[.box (gB l m)]
def Gm.Ok(m:Gm)(c:Int):Prop:=0<=m.at_/\m.at_+c<=1000000/\0<=m.next/\m.next+c<=1000000
def Gst(m m':Gm)(c:Int):Prop:=m.at_<=m'.at_/\m'.at_<=m.at_+c/\m.next<=m'.next/\m'.next<=m.next+c
variable{c:Int}
theorem Gst.refl(m:Gm)(h:0<=c):Gst m m c:=by unfold Gst;omega
variable{a b:Gm}{d:Int}
theorem Gst.trans{m:Gm}{e:Int}(h1:Gst a b c)(h2:Gst b m d)(h:c+d<=e):Gst a m e:=by unfold Gst at *;omega
theorem Gst.mono(h1:Gst a b c)(h:c<=d):Gst a b d:=by unfold Gst at *;omega
theorem Gm.Ok.adv{e:Int}(h:a.Ok e)(h1:Gst a b c)(h2:c+d<=e):b.Ok d:=by unfold Gst Gm.Ok at *;omega
theorem Gm.Ok.mono(h:a.Ok c)(h1:d<=c):a.Ok d:=by unfold Gm.Ok at *;omega
theorem qJ(m:Gm):Gst m m.tick 1:=by simp only[Gst,Gm.tick];omega
theorem fI(m:Gm)(k n:Int)(r:Id)(ks:wG):Gst m (aX m k n r ks).2 1:=by simp only[Gst,aX];omega
theorem zGZ(m:Gm)(k:Nat)(d s:Id):Gst m (zFj m k d s).2 2:=(fI m _ _ _ _).trans (fI _ _ _ _ _) (by omega)
theorem zIK(l:wB)(t:Int)(m:Gm):Gst m (tW l t m).2 2:=by
 unfold tW;split
 .exact(qJ m).trans (fI _ _ _ _ _) (by omega)
 .exact(qJ m).trans (fI _ _ _ _ _) (by omega)
theorem zFO(l:wB)(d:Dfn)(s:Id)(t:Int)(m:Gm):Gst m (rT l d s t m).2 3:=by
 unfold rT;split
 .exact(qJ m).trans (zGZ _ _ _ _) (by omega)
 .exact(qJ m).trans (zIK _ _ _) (by omega)
def gC:Nat->Int
 | 0=>3
 |n+1=>2*gC n+5
theorem zGY:∀n,3<=gC n
 | 0=>by simp[gC]
 |n+1=>by have:=zGY n;simp only[gC];omega
variable{f:Gm->Exp×Gm}
theorem zMF(hf:∀m,Gst m (f m).2 c)(m:Gm)(n:Int):Gst m (zNW f m n).2 (2*c+1) :=
 (((hf m).trans (hf _) (jAe _)).trans (fI _ _ _ _ _) (by omega))
theorem zXK{g:Gm->Exp×Gm}{b:Int}(hf:∀m,Gst m (f m).2 b)(hg:∀m,Gst m (g m).2 c)(m:Gm):Gst m (gIf f g m).2 (b+2*c+1) :=
 ((((hf m).trans (hg _) (jAe _)).trans (hg _) (jAe _)).trans (fI _ _ _ _ _) (by omega))
theorem fJ(l:wB)(d:Dfn)(s:Id):∀(n:Nat) (t:Int) (m:Gm),Gst m (b9 l d s n t m).2 (gC n)
 | 0,t,m=>zFO l d s t m
 |n+1,t,m=>by
  have ih:=fJ l d s n t;have h3:=zGY n;unfold b9;simp only[gC];split
  .exact(qJ m).trans (zGZ _ _ _ _) (by omega)
  .split
   .exact(qJ m).trans (zMF ih _ _) (by omega)
   .split
    .exact(qJ m).trans (zMF ih _ _) (by omega)
    .split
     .exact(qJ m).trans (zXK (zFO l d s 1) ih _) (by omega)
     .exact(qJ m).trans (zIK _ _ _) (by omega)
section
variable{l:wB}
theorem dY(m:Gm)(n:Int)(hn:0<n)(h:m.Ok 1):my 65 [.ptr 0 0,int n] (gS l m) (int (gN l m n)) (gS l m.tick):=by
 obtain⟨h1,h2,h3,h4⟩:=h;refine mq [] [.slot 4] func65 (by kernel_rfl) ?_
 (conv in kq _ _=>cbv)
 have w1:=qA (m.at_+1) (by omega);have w2:=qA m.at_ (by omega);simp[gS,gB,w1,w2];refine zZ (fB l m.at_ n hn) (by simp) (by simp) ?_;simp;exact mv [0] 0 (by rfl) (by simp[Gm.tick,gN])
theorem dE(hl:∀x∈l,w64 x=x)(m:Gm){n:Int}(hn:0<n):0<=gN l m n/\gN l m n<n:=yA hl hn
theorem cN(m:Gm)(k n:Int)(r:Id)(ks:wG)(h:m.Ok 1):my 66 [.ptr 0 0,int k,int n,.agg (zG r),.sl ks.length (qL ks)] (gS l m) (.agg (zH (aX m k n r ks).1)) (gS l (aX m k n r ks).2):=by
 obtain⟨h1,h2,h3,h4⟩:=h;refine mq [] [.cell 10 15 true] func66 (by kernel_rfl) ?_
 (conv in kq _ _=>cbv)
 have w1:=qA (m.next+1) (by omega);have w2:=qA m.next (by omega);simp[gS,gB,w1,w2,zG];refine zZ (uB m.next) (by simp) (by simp[zG]) ?_;simp[zG];exact mv [0] 0 (by rfl) (by simp[aX,zH,Typ.zero,Typ.k,Typ.id,Typ.kids,Id.zero])
variable{ss:List Slt}{t:Int}
theorem zKP{x:Int}(h:∀i,i<ss.length->∀s,ss[sW ss.length x i]?=some s->¬(s.typ.k=t/\4<x)):xB ss t x=none:=by
 unfold xB;split
 .rename_i h4;rw[Option.map_eq_none_iff,jD0];intro i hi;rw[jBr]at hi;split
  .rename_i s hs;intro hh;exact h i hi s hs ⟨by simpa using hh,h4⟩
  .simp
 .rfl
theorem zNS{x:Int}{i:Nat}(hi:i<ss.length){s:Slt}(hs:ss[sW ss.length x i]?=some s)(h1:s.typ.k=t)(h4:4<x)(hb:∀j,j<i->∀u,ss[sW ss.length x j]?=some u->¬u.typ.k=t):xB ss t x=some (sW ss.length x i):=by
 unfold xB;rw[if_pos h4];refine jAf.2 ⟨i,?_,rfl⟩;rw[List.find?_eq_some_iff_getElem];refine⟨by simp[hs,h1],i,by simpa using hi,by simp,fun j hj=>?_⟩;simp only[List.getElem_range];cases hu:ss[sW ss.length x j]? with
 |none=>rfl
 |some u=>simp[hb j hj u hu]
theorem qFS(ht:t=0\/t=1):(tK t).k=t:=by rcases ht with rfl|rfl<;>rfl
theorem zSl(ht:t=0\/t=1):zB (tK t)=[int t,int 0,int 0,int 0,.sl 0 []]:=by rcases ht with rfl|rfl<;>rfl
theorem cK:zH Exp.zero=[int 0,int 0,int 0,int 0,int 0,int 0,int 0,int 0,int 0,int 0,int 0,int 0,.sl 0 [],.sl 0 [],.sl 0 []]:=rfl
def qCd(ss:List Slt)(t:Int)(X:Int)(i:Nat):Prop:=i<=ss.length/\∀j,j<i->∀u,ss[sW ss.length X j]?=some u->¬(u.typ.k=t/\4<X)
def zGE(l:wB)(d:Dfn)(s:Id)(n:Nat):Prop:=∀(m:Gm) (t:Int),t=0\/t=1->m.Ok (gC n) ->
 my 68 [.ptr 0 0,.agg (zB (tK t)),.agg (zI d),.agg (zG s),int n] (gS l m) (.agg (zH (b9 l d s n t m).1)) (gS l (b9 l d s n t m).2)
theorem zGn(hl:∀x∈l,w64 x=x)(d:Dfn)(s:Id)(hfew:d.slots.length<=6)(N:Nat)(hN:N<=2)(ih:∀n,N=n+1->zGE l d s n/\zGE l d s 0):zGE l d s N:=by
 intro m t ht hok;have hc3:=zGY N;have hok':=hok;obtain⟨x0,x1⟩:=dE hl m (n:=12) (by omega);obtain⟨X,hX⟩:∃X:Nat,gN l m 12=X:=⟨(gN l m 12).toNat,by omega⟩;have htk:=qFS ht;have htd:=zSl ht;have hg:∀q,q=b9 l d s N t m->my 68 [.ptr 0 0,.agg (zB (tK t)),.agg (zI d),.agg (zG s),int N] (gS l m) (.agg (zH q.1)) (gS l q.2):=by
  intro q hq;refine mn zQX [] [.cell 10 15 true] func68 (by kernel_rfl) ?_
  (conv in zY _ _ _ _=>cbv)
  simp[gS,gB,htd];refine mr (dY (l:=l) m 12 (by omega) (hok'.mono (by omega))) [0] (by simp[gS,gB]) ?_;simp[gS,gB];rw[hX];rw[hX]at x1;refine qM (S:=Nat) (fun i=>[(0,.ptr 0 0),(4,int N),(6,.ptr 1 0),(7,.ptr 2 0),(8,.ptr 3 0),(10,.ptr 4 0),(11,int X),(12,int i)])
   (fun i=>gS l m.tick++[.box (zB (tK t)),.box (zI d),.box (zG s),.box (zH Exp.zero)]) (qCd d.slots t X) (fun i=>d.slots.length-i) 0 ⟨by omega,fun j hj=>by omega⟩
   (mw [0,1,2,3,4] 0 (by rfl) (by simp[gS,gB,htd,cK,Gm.tick])) ?_
  rintro i ⟨hi,hno⟩;by_cases hin:i<d.slots.length/\(3:Int)<X
  .obtain⟨h1,h3⟩:=hin;have hw:=qA ((i:Int)+X) (by omega);have hk:sW d.slots.length X i<d.slots.length:=Nat.mod_lt _ (by omega);have hne:d.slots≠[]:=fun e=>by rw[e]at h1;simp at h1
   have hmod:((i:Int)+X).tmod d.slots.length=((sW d.slots.length X i:Nat):Int):=by rw[jDr (by omega)];simp[sW]
   have hget:d.slots[sW d.slots.length X i]?=some d.slots[sW d.slots.length X i]:=jA0 hk;have hnext:¬(d.slots[sW d.slots.length X i].typ.k=t/\(4:Int)<X)->∀j,j<i+1->∀u,d.slots[sW d.slots.length X j]?=some u->¬(u.typ.k=t/\4<(X:Int)):=fun hh j hj u hu=>by
    by_cases e:j=i
    .subst e;rw[hget]at hu;cases hu;exact hh
    .exact hno j (by omega) u hu
   have hhit:d.slots[sW d.slots.length X i].typ.k=t->(4:Int)<X->xB d.slots t (gN l m 12)=some (sW d.slots.length X i):=fun a b=>by rw[hX];exact zNS h1 hget a b fun j hj u hu e=>hno j hj u hu ⟨e,b⟩
   generalize sW d.slots.length X i=k at hk hmod hget hnext hhit;by_cases h5:d.slots[k].typ.k=t
   .by_cases h4:(4:Int)<X
    .have hq2:q=zFj m.tick k d.id s:=by cases N<;>rw[hq,b9]<;>simp only[rT,hhit h5 h4]
     have g1:=cN (l:=l) m.tick 2 0 s [] (hok'.adv (qJ m) (by omega));have g2:=cN (l:=l) (aX m.tick 2 0 s []).2 8 k d.id [(aX m.tick 2 0 s []).1] (hok'.adv ((qJ m).trans (fI _ _ _ _ _) (jAe _)) (by omega));simp[gS,gB,htd,zI,h1,h3,h4,h5,hw,hmod,hk,hne,jN hk,j4];intro _;refine aK g1 [0] (by decide) (by simp[gS,gB]) (by simp) (by decide) (by simp) (by simp[gS]) ?_;simp[gS,gB];refine cE g2 [0] (by decide) (by simp[gS,gB]) (by simp[zM,zG]) ?_;simp[gS,gB];rw[hq2];exact mv [0] 0 (by rfl) (by simp[zFj,zH])
    .simp[gS,gB,htd,zI,h1,h3,h4,h5,hw,hmod,hk,hne,jN hk,j4];exact fun _=>zN (i+1) ⟨h1,hnext (fun hh=>h4 hh.2)⟩ (by omega) (mw [0,1,2,3,4] 0 (by rfl) (by simp[gS,gB,htd,cK,zI,z6 h1 (show d.slots.length<=maxLen by simp[maxLen];omega)]))
   .simp[gS,gB,htd,zI,h1,h3,h5,hw,hmod,hk,hne,jN hk,j4];exact fun _=>zN (i+1) ⟨h1,hnext (fun hh=>h5 hh.1)⟩ (by omega) (mw [0,1,2,3,4] 0 (by rfl) (by simp[gS,gB,htd,cK,zI,z6 h1 (show d.slots.length<=maxLen by simp[maxLen];omega)]))
  .have hnone:xB d.slots t (gN l m 12)=none:=by
    rw[hX];refine zKP fun j hj u hu=>?_
    by_cases h3:(3:Int)<X
    .exact hno j (by omega) u hu
    .omega
   have hexit:(¬i<d.slots.length/\(0:Int)<=X)\/(i<d.slots.length/\¬(3:Int)<X):=by omega
   cases N with
   |zero =>
    have hq3:q=tW l t m.tick:=by rw[hq,b9];simp only[rT,hnone]
    rcases ht with rfl|rfl
    .have hq2:q=aX m.tick.tick 0 (gN l m.tick 4-1) Id.zero []:=by rw[hq3,tW];simp
     have n1:=dY (l:=l) m.tick 4 (by omega) (hok'.adv (qJ m) (by omega));have g:=cN (l:=l) m.tick.tick 0 (gN l m.tick 4-1) Id.zero [] (hok'.adv ((qJ m).trans (qJ _) (jAe _)) (by omega));obtain⟨v0,v1⟩:=dE hl m.tick (n:=4) (by omega);have hv:=qA (gN l m.tick 4-1) (by omega);have hcs:((X:Int)<2/\(X:Int)<3/\¬(X:Int)=3)\/(¬(X:Int)<2/\(X:Int)<3/\¬(X:Int)=3)\/(¬(X:Int)<2/\¬(X:Int)<3/\(X:Int)=3)\/(¬(X:Int)<2/\¬(X:Int)<3/\¬(X:Int)=3):=by omega
     rcases hcs with ⟨hB,hX3,hX4⟩|⟨hB,hX3,hX4⟩|⟨hB,hX3,hX4⟩|⟨hB,hX3,hX4⟩<;>rcases hexit with ⟨hE,hE2⟩|⟨hE,hE2⟩ <;>
      (simp[gS,gB,htd,zI,hE,hE2,hB,hX3,hX4]
       intro _;refine mr n1 [0] (by simp[gS,gB]) ?_;simp[gS,gB,hv];refine mr g [0] (by simp[gS,gB,zG,Id.zero]) ?_;simp[gS,gB];rw[hq2];exact mv [0] 0 (by rfl) (by simp[aX,zH]))
    .have hq2:q=aX m.tick.tick 1 (gN l m.tick 2) Id.zero []:=by rw[hq3,tW];simp
     have n1:=dY (l:=l) m.tick 2 (by omega) (hok'.adv (qJ m) (by omega));have g:=cN (l:=l) m.tick.tick 1 (gN l m.tick 2) Id.zero [] (hok'.adv ((qJ m).trans (qJ _) (jAe _)) (by omega));obtain⟨v0,v1⟩:=dE hl m.tick (n:=2) (by omega);have hcs:((X:Int)<2/\(X:Int)<3/\¬(X:Int)=3)\/(¬(X:Int)<2/\(X:Int)<3/\¬(X:Int)=3)\/(¬(X:Int)<2/\¬(X:Int)<3/\(X:Int)=3)\/(¬(X:Int)<2/\¬(X:Int)<3/\¬(X:Int)=3):=by omega
     rcases hcs with ⟨hB,hX3,hX4⟩|⟨hB,hX3,hX4⟩|⟨hB,hX3,hX4⟩|⟨hB,hX3,hX4⟩<;>rcases hexit with ⟨hE,hE2⟩|⟨hE,hE2⟩ <;>
      (simp[gS,gB,htd,zI,hE,hE2,hB,hX3,hX4]
       intro _;refine mr n1 [0] (by simp[gS,gB]) ?_;simp[gS,gB];refine mr g [0] (by simp[gS,gB,zG,Id.zero]) ?_;simp[gS,gB];rw[hq2];exact mv [0] 0 (by rfl) (by simp[aX,zH]))
   |succ n =>
    obtain⟨ih,ih0⟩:=ih n rfl;have hc3:=zGY n;have hok':m.Ok (2*gC n+5):=hok;have hwn:=qA (n:Int) (by omega);have h0n:(0:Int)<(n:Int)+1:=by omega
    obtain⟨a,ha⟩:∃a,a=b9 l d s n t m.tick:=⟨_,rfl⟩;have c1:=ih m.tick t ht (hok'.adv (qJ m) (by omega));have sa:=fJ l d s n t m.tick;rw[<-ha]at c1 sa;obtain⟨b,hb⟩:∃b,b=b9 l d s n t a.2:=⟨_,rfl⟩;have c2:=ih a.2 t ht (hok'.adv ((qJ m).trans sa (jAe _)) (by omega));have sb:=fJ l d s n t a.2;rw[<-hb]at c2 sb;have okb:b.2.Ok 1:=hok'.adv (((qJ m).trans sa (jAe _)).trans sb (jAe _)) (by omega);by_cases hA:(X:Int)<3/\t=0
    .obtain⟨hA1,hA2⟩:=hA;subst hA2;have hq2:q=aX b.2 4 X Id.zero [a.1,b.1]:=by rw[hq,b9,hnone];simp only[hX];rw[if_pos ⟨hA1,trivial⟩,zNW,<-ha,<-hb]
     have g:=cN (l:=l) b.2 4 X Id.zero [a.1,b.1] okb;rcases hexit with ⟨hE,hE2⟩|⟨hE,hE2⟩
     all_goals
      simp[gS,gB,htd,zI,hE,hE2,h0n,hwn,hA1];intro _;refine mr c1 [0] (by simp[gS,gB,htd,zI,zG]) ?_;simp[gS,gB];obtain rfl|rfl|rfl:X=0\/X=1\/X=2:=by omega
      all_goals
       simp[gS,gB,htd,zI,h0n,hwn];refine aK c2 [0] (by decide) (by simp[gS,gB]) (by simp[htd,zI,zG]) (by decide) (by simp) (by simp[gS]) ?_;simp[gS,gB];refine cE g [0] (by decide) (by simp[gS,gB]) (by simp[zM,zG,Id.zero]) ?_;simp[gS,gB];rw[hq2];exact mv [0] 0 (by rfl) (by simp[aX,zH])
    .by_cases hB:(X:Int)<2
     .have ht1:t=1:=by omega
      subst ht1;have hX3:(X:Int)<3:=by omega
      have hq2:q=aX b.2 4 (7+X) Id.zero [a.1,b.1]:=by rw[hq,b9,hnone];simp only[hX];rw[if_neg (by omega),if_pos hB,zNW,<-ha,<-hb]
      have g:=cN (l:=l) b.2 4 (7+X) Id.zero [a.1,b.1] okb;rcases hexit with ⟨hE,hE2⟩|⟨hE,hE2⟩
      all_goals
       simp[gS,gB,htd,zI,hE,hE2,h0n,hwn,hB,hX3];intro _;refine mr c1 [0] (by simp[gS,gB,htd,zI,zG]) ?_;simp[gS,gB];obtain rfl|rfl:X=0\/X=1:=by omega
       all_goals
        simp[gS,gB,htd,zI,h0n,hwn];refine aK c2 [0] (by decide) (by simp[gS,gB]) (by simp[htd,zI,zG]) (by decide) (by simp) (by simp[gS]) ?_;simp[gS,gB];refine cE g [0] (by decide) (by simp[gS,gB]) (by simp[zM,zG,Id.zero]) ?_;simp[gS,gB];rw[hq2];exact mv [0] 0 (by rfl) (by simp[aX,zH])
     .by_cases hX4:(X:Int)=3
      .have hX3:¬(X:Int)<3:=by omega
       clear c1 c2 sa sb okb;clear hb;clear b;clear ha;clear a;have c0:=ih0 m.tick 1 (.inr rfl) (hok'.adv (qJ m) (by simp only[gC];omega));have s0:=fJ l d s 0 1 m.tick;obtain⟨c,hc⟩:∃c,c=b9 l d s 0 1 m.tick:=⟨_,rfl⟩;rw[<-hc]at c0 s0;have d1:=ih c.2 t ht (hok'.adv ((qJ m).trans s0 (jAe _)) (by simp only[gC];omega));have s1:=fJ l d s n t c.2;obtain⟨a,ha⟩:∃a,a=b9 l d s n t c.2:=⟨_,rfl⟩;rw[<-ha]at d1 s1;have d2:=ih a.2 t ht (hok'.adv (((qJ m).trans s0 (jAe _)).trans s1 (jAe _)) (by simp only[gC];omega));have s2:=fJ l d s n t a.2;obtain⟨b,hb⟩:∃b,b=b9 l d s n t a.2:=⟨_,rfl⟩;rw[<-hb]at d2 s2;have g:=cN (l:=l) b.2 5 0 Id.zero [c.1,a.1,b.1] (hok'.adv ((((qJ m).trans s0 (jAe _)).trans s1 (jAe _)).trans s2 (jAe _)) (by simp only[gC];omega));have hq2:q=aX b.2 5 0 Id.zero [c.1,a.1,b.1]:=by have e0:rT l d s 1 m.tick=c:=hc.symm;rw[hq,b9,hnone];simp only[hX];rw[if_neg (by omega),if_neg (by omega),if_pos hX4,gIf];simp only[e0,<-ha,<-hb]
       rcases hexit with ⟨hE,hE2⟩|⟨hE,hE2⟩
       all_goals
        simp[gS,gB,htd,zI,hE,hE2,h0n,hwn,hB,hX3,hX4];intro _;refine mr c0 [0] (by simp[gS,gB,zB,jO,tK,zI,zG,Typ.k,Typ.id,Typ.kids]) ?_;simp[gS,gB,htd,zI,h0n,hwn];refine mr d1 [0] (by simp[gS,gB,htd,zI,zG]) ?_;simp[gS,gB,htd,zI,h0n,hwn];refine aK d2 [0] (by decide) (by simp[gS,gB]) (by simp[htd,zI,zG]) (by decide) (by simp) (by simp[gS]) ?_;simp[gS,gB];refine cE g [0] (by decide) (by simp[gS,gB]) (by simp[zM,zH,zG,Id.zero]) ?_;simp[gS,gB];rw[hq2];exact mv [0] 0 (by rfl) (by simp[aX,zH])
      .clear c1 c2 sa sb okb;clear hb;clear b;clear ha;clear a;have hq3:q=tW l t m.tick:=by rw[hq,b9,hnone];simp only[hX];rw[if_neg (by omega),if_neg (by omega),if_neg hX4]
       rcases ht with rfl|rfl
       .have hq2:q=aX m.tick.tick 0 (gN l m.tick 4-1) Id.zero []:=by rw[hq3,tW];simp
        have n1:=dY (l:=l) m.tick 4 (by omega) (hok'.adv (qJ m) (by omega));have g:=cN (l:=l) m.tick.tick 0 (gN l m.tick 4-1) Id.zero [] (hok'.adv ((qJ m).trans (qJ _) (jAe _)) (by omega));obtain⟨v0,v1⟩:=dE hl m.tick (n:=4) (by omega);have hv:=qA (gN l m.tick 4-1) (by omega);have hcs:(¬(X:Int)<2/\¬(X:Int)<3/\¬(X:Int)=3):=by omega
        rcases hcs with ⟨hB,hX3,hX4⟩<;>rcases hexit with ⟨hE,hE2⟩|⟨hE,hE2⟩ <;>
         (simp[gS,gB,htd,zI,hE,hE2,hB,hX3,hX4,h0n]
          intro _;refine mr n1 [0] (by simp[gS,gB]) ?_;simp[gS,gB,hv];refine mr g [0] (by simp[gS,gB,zG,Id.zero]) ?_;simp[gS,gB];rw[hq2];exact mv [0] 0 (by rfl) (by simp[aX,zH]))
       .have hq2:q=aX m.tick.tick 1 (gN l m.tick 2) Id.zero []:=by rw[hq3,tW];simp
        have n1:=dY (l:=l) m.tick 2 (by omega) (hok'.adv (qJ m) (by omega));have g:=cN (l:=l) m.tick.tick 1 (gN l m.tick 2) Id.zero [] (hok'.adv ((qJ m).trans (qJ _) (jAe _)) (by omega));obtain⟨v0,v1⟩:=dE hl m.tick (n:=2) (by omega);have hcs:(¬(X:Int)<2/\(X:Int)<3/\¬(X:Int)=3)\/(¬(X:Int)<2/\¬(X:Int)<3/\¬(X:Int)=3):=by omega
        rcases hcs with ⟨hB,hX3,hX4⟩|⟨hB,hX3,hX4⟩<;>rcases hexit with ⟨hE,hE2⟩|⟨hE,hE2⟩ <;>
         (simp[gS,gB,htd,zI,hE,hE2,hB,hX3,hX4,h0n]
          intro _;refine mr n1 [0] (by simp[gS,gB]) ?_;simp[gS,gB];refine mr g [0] (by simp[gS,gB,zG,Id.zero]) ?_;simp[gS,gB];rw[hq2];exact mv [0] 0 (by rfl) (by simp[aX,zH]))
 exact hg _ rfl
theorem zAW(hl:∀x∈l,w64 x=x)(d:Dfn)(s:Id)(hfew:d.slots.length<=6):∀n:Nat,n<=2->zGE l d s n
 | 0,h=>zGn hl d s hfew 0 h (fun n e=>by omega)
 |n+1,h=>zGn hl d s hfew (n+1) h fun k e=>by
  have:k=n:=by omega
  subst this;exact⟨zAW hl d s hfew k (by omega),zAW hl d s hfew 0 (by omega)⟩
end
def qEo:Nat->Option wD:=fun|8=>some [(0,1),(1,0),(3,1),(4,0),(2,3),(5,0),(6,4),(7,0)]|_=>none
@[simp]theorem zKw:zC prog 154=true:=by kernel_rfl
mutual
theorem zNx:∀(v:Val) (k:Nat),(vU v).bnd k=true
 | .mk a n l,k=>by simp only[vU,A.bnd];exact xH l k
theorem xH:∀(l:wH) (k:Nat),dK k (zS l)=true
 |[],k=>by simp
 |v::l,k=>by have h:=zNx v k;rw[zIk]at h;simp only[A.bnd]at h;simp[h,xH l k]
end
attribute [simp] xH
def yD(l:List wH):wE:=l.map fun vs=>.sl vs.length (zS vs)
@[simp]theorem zK6(l:List wH):(yD l).length=l.length:=by simp[yD]
@[simp]theorem zXs:yD []=[]:=rfl
@[simp]theorem zV5(v:wH)(l:List wH):yD (v::l)=.sl v.length (zS v)::yD l:=rfl
@[simp]theorem vZ(a b:List wH):yD (a++b)=yD a++yD b:=by simp[yD]
theorem rJ:∀(l:List wH),qP (yD l)
 |[]=>qP.nil
 |v::l=>qP.sl (dW v) (rJ l)
@[simp]theorem zWe(l:List wH):jH (yD l)=yD l:=(rJ l).1
@[simp]theorem qAT{rf g}(l:List wH):vwL rf g (yD l)=yD l:=(rJ l).2 _ _
@[simp]theorem zKr:∀(l:List wH) (k:Nat),dK k (yD l)=true
 |[],k=>by simp
 |v::l,k=>by simp[zKr l k]
theorem zNA:my 155 [.nil] [] .nil []:=by
 refine mq [] [.slot 2] func155 (by kernel_rfl) ?_
 (conv in kq _ _=>cbv)
 simp;exact zA 0 (by simp)
theorem zQd(l:wH)(h:l≠[])(hb:l.length*40<=140737488355328)(hm:l.length<=maxLen):my 155 [.sl l.length (zS l)] [] (.row 0 l.length) [.row false 46 3 l.length (zS l)]:=by
 refine mq [] [.slot 2] func155 (by kernel_rfl) ?_
 (conv in kq _ _=>cbv)
 simp[h];refine⟨⟨hm,hb⟩,?_⟩;exact mv [0] 0 (by rfl) (by simp)
theorem zCe(l:List wH):my 118 [.sl l.length (yD l)] [] (.clo 154 [] [.rptr [.sl l.length (yD l)]]) []:=by
 refine mq [] [.slot 2] func118 (by kernel_rfl) ?_
 (conv in kq _ _=>cbv)
 simp;exact zA 1 (by simp)
def nT(l:wH):A:=if l=[]then .nil else .sl l.length (zS l)
@[simp]theorem zSn:nT []=.nil:=rfl
theorem zGA{l:wH}(h:l≠[]):nT l=.sl l.length (zS l):=by simp[nT,h]
@[simp]theorem qCw(l:wH)(k:Nat):(nT l).bnd k=true:=by unfold nT;split<;>simp
@[simp]theorem zSS(l:wH):cellsOf (nT l)=some [nT l]:=by unfold nT;split<;>simp
@[simp]theorem qI6{rf g}(l:wH):vw rf g (nT l)=nT l:=by unfold nT;split<;>simp
@[simp]theorem qAo(l:wH):nrm0 (nT l)=.sl l.length (zS l):=by unfold nT;split<;>simp_all
def fX(acc:List wH)(last:wH):List wH:=acc.flatMap fun h=>last.map fun x=>h++[x]
def aJ(l:List wH):List wH:=l.foldl fX [[]]
@[simp]theorem zON:aJ []=[[]]:=rfl
theorem zAa(l:List wH)(last:wH):aJ (l++[last])=fX (aJ l) last:=by simp[aJ]
theorem zGq:∀(l:List wH) (acc:List wH) (n:Nat),(∀t∈acc,t.length=n)->∀t∈l.foldl fX acc,t.length=n+l.length
 |[],acc,n,h,t,ht=>by simpa using h t ht
 |a::l,acc,n,h,t,ht=>by
  have:=zGq l (fX acc a) (n+1) (fun s hs=>by simp only[fX,List.mem_flatMap,jAk]at hs;obtain⟨u,hu,x,_,rfl⟩:=hs;simp[h u hu]) t ht
  simp only[jAb];omega
theorem zOM{l:List wH}{t:wH}(h:t∈aJ l):t.length=l.length:=by have:=zGq l [[]] 0 (by simp) t h;omega
theorem iS(acc:List wH)(last:wH):(fX acc last).length=acc.length*last.length:=by
 induction acc with
 |nil=>simp[fX]
 |cons a acc ih =>
  have e:fX (a::acc) last=last.map (fun x=>a++[x])++fX acc last:=by simp[fX]
  rw[e];simp[ih,jBv,jCj]
theorem zPb{acc:List wH}{last:wH}{j:Nat}(hi:i<acc.length)(hj:j<last.length):(fX acc last)[i*last.length+j]?=some (acc[i]++[last[j]]):=by
 induction acc generalizing i with
 |nil=>simp at hi
 |cons a acc ih =>
  have e:fX (a::acc) last=last.map (fun x=>a++[x])++fX acc last:=by simp[fX]
  rw[e];cases i with
  |zero=>rw[jAj (by simpa using hj)];simp[hj]
  |succ i =>
   have hi':i<acc.length:=by simpa using hi
   rw[jAw (by simp[jBv])];have:(i+1)*last.length+j-(last.map fun x=>a++[x]).length=i*last.length+j:=by simp[jBv];omega
   rw[this,ih hi'];rfl
theorem zML:∀(n:Nat) (l:List wH),l.length=n->n<=1000000->zMg prog 154 [] [.rptr [.sl l.length (yD l)]] ((aJ l).map fun t=>[nT t]):=by
 intro n;induction n with
 |zero =>
  intro l hl _;have hl0:l=[]:=jC5 hl;subst hl0;refine uD fun b m T hT hY=>?_
  simp only[zON,jAg,jBq,jAb,jBc,zSn]at hT hY ⊢;have h0:=hT 0 (by simp);have h1:=hT 1 (by simp);refine mn qEo [] [] func154 (by kernel_rfl) ?_
  (conv in zY _ _ _ _=>cbv)
  simp[h0.1,aN h0.1];refine zBy h0 h1 (hY 0 (by simp)) (by simp) ?_;simp;exact zH4 h1 (by simp)
 |succ n ih =>
  intro l hl hn;obtain⟨l',last,rfl⟩:∃l' last,l=l'++[last]:=⟨l.dropLast,l.getLast (by intro h;simp[h]at hl),by rw[List.dropLast_concat_getLast]⟩;have hl':l'.length=n:=by simpa using hl
  refine uD fun b m T hT hY=>?_
  have hXl:((aJ (l'++[last])).map fun t=>[nT t]).length=(aJ l').length*last.length:=by rw[jAd,zAa,iS]
  rw[hXl]at hT ⊢;have h0:=hT 0 (jB3 _);refine mn qEo [] [] func154 (by kernel_rfl) ?_
  (conv in zY _ _ _ _=>cbv)
  have hw:IntKind.i64.wrap (l'.length:Int)=l'.length:=zS2 (by simp[maxLen];omega);have hne:¬((l'.length:Int)+1=0):=by omega
  simp[h0.1,aN h0.1,hw,hne];intro hmx;refine⟨by omega,?_⟩;refine mu (zCe l') (by simp) ?_;simp;have hCl:∀j,j<=(aJ l').length*last.length->Cl (m+1) (T j++[.box [yv b]]):=fun j hj=>(hT j hj).app rfl (by simp)
  have hbd:∀i,i<=(aJ l').length->i*last.length<=(aJ l').length*last.length:=fun i hi=>jBs _ hi
  refine⟨[(1,.rptr [.sl (l'.length+1) (yD l'++[.sl last.length (zS last)])]),(2,.ptr m 0),(16,.clo 154 [] [.rptr [.sl l'.length (yD l')]])],m+1,(aJ l').map (fun t=>[nT t]),fun j=>T (j*last.length)++[.box [yv b]],154,[],
   [.rptr [.sl l'.length (yD l')]],by simp,zKw,ih l' hl' (by omega),?_,by omega,?_,by simp,by simp,?_,?_⟩
  .simp only[Nat.zero_mul];exact zB6 (τ:=[]) (by simp) (by simp[h0.1]) (by simp) (by simp[h0.1]) (by rw[(hCl 0 (jB3 _)).1];exact(hCl 0 (jB3 _)).2)
  .intro i hi;exact hCl _ (hbd i (by simpa using hi))
  .intro i hi b' M r r';simp only[jAd]at hi;have hd:(yD l'++[A.sl last.length (zS last)]).drop l'.length=[A.sl last.length (zS last)]:=by rw[<-zK6 l'];simp
   simp[hw,hd];intro _;refine⟨by omega,?_⟩;intro hlm;have hCl2:∀j r,i*last.length+j<=(aJ l').length*last.length->Cl (m+2) (T (i*last.length+j)++[.box [yv b],AObj.lp b' r M
    [(1,A.rptr [A.sl (l'.length+1) (yD l'++[A.sl last.length (zS last)])]),(2,A.ptr m 0),
     (16,A.clo 154 [] [A.rptr [A.sl l'.length (yD l')]])]]):=fun j r hj=>(hT _ hj).app rfl (by simp)
   have hij:∀j,j<=last.length->i*last.length+j<=(aJ l').length*last.length:=fun j hj=>by have:=jBs last.length (Nat.succ_le_of_lt hi);rw[jBv]at this;omega
   have hTi:(T (i*last.length)).length=m:=(hT _ (hij 0 (jB3 _))).1;refine qM (S:=Nat) (fun j=>[(2,.ptr m 0),(3,nT (aJ l')[i]),(23,.sl last.length (zS last)),(24,int last.length),(25,int j)]) (fun j=>T (i*last.length+j)++[.box [yv b],AObj.lp b' r' M
    [(1,A.rptr [A.sl (l'.length+1) (yD l'++[A.sl last.length (zS last)])]),(2,A.ptr m 0),
     (16,A.clo 154 [] [A.rptr [A.sl l'.length (yD l')]])]]) (fun j=>j<=last.length) (fun j=>last.length-j) 0 (by simp)
    (zB6 (τ:=[]) (by simp) (by simp[hTi]) (by simp) (by simp[hTi]) (by rw[(hCl2 0 r' (hij 0 (jB3 _))).1];exact(hCl2 0 r' (hij 0 (jB3 _))).2)) ?_
   intro j hj;simp;refine qY (fun h=>?_) (fun h=>?_)<;>simp at h
   .have hTj:=hT _ (hij j hj);simp[h,jY h,hTj.1,aN hTj.1,aD hTj.1,cG hTj.1,zBg hTj.1,zAv];have hgl:i*last.length+j<(fX (aJ l') last).length:=by rw[iS];have:=hij (j+1) h;omega
    have hge:(fX (aJ l') last)[i*last.length+j]=(aJ l')[i]++[last[j]]:=by
     have:=zPb hi h;rw[jA0 hgl]at this
     simpa using this
    have hTj1:=hT (i*last.length+(j+1)) (hij (j+1) h);have hyj:gZ prog b [.sl ((aJ l')[i].length+1) (zS ((aJ l')[i]++[last[j]]))] (T (i*last.length+j)) fun o τ=>o=.ret (.lit (.bool true))/\τ = T (i*last.length+(j+1)):=by
     have:=hY (i*last.length+j) (by simpa[zAa]using hgl);simp only[zAa,jAy,hge]at this;rw[zGA (by simp)]at this
     simpa[jBp]using this
    have hlen:(aJ l')[i].length=n:=by rw[zOM (jA3 hi),hl']
    by_cases hh:(aJ l')[i]=[]
    .refine zGN zNA (by simp[hh]) ?_;simp[hTj.1,aN hTj.1,aD hTj.1,cG hTj.1,zBg hTj.1];refine⟨by simp[maxLen],?_⟩;simp only[hh,jBc,jAz,jBm,nX,zDt]at hyj;refine exY (k:=3) rfl hTj hTj1 (by simp) hyj ?_;simp;refine zN (j+1) h (by omega) (zB6 (τ:=[.box (zL last[j]),.row true 46 3 1 (zL last[j])]) (by simp[zL]) (by simp[hTj1.1]) (by simp[hh,z6 h hlm]) (by simp[hTj1.1]) (by rw[(hCl2 (j+1) r' (hij (j+1) h)).1];exact(hCl2 (j+1) r' (hij (j+1) h)).2))
    .refine zGN (zQd _ hh (by omega) (by simp[maxLen];omega)) (by simp[zGA hh]) ?_;simp[hTj.1,aN hTj.1,aD hTj.1,cG hTj.1,zBg hTj.1];refine⟨by simp[maxLen];omega,?_⟩;simp only[cU,nX,zDt]at hyj;refine exY (k:=3) rfl hTj hTj1 (by simp) hyj ?_;simp;refine zN (j+1) h (by omega) (zB6 (τ:=[.box (zL last[j]),.row true 46 3 ((aJ l')[i].length+1) (zS (aJ l')[i]++zL last[j])]) (by simp[zL]) (by simp[hTj1.1]) (by simp[z6 h hlm]) (by simp[hTj1.1]) (by rw[(hCl2 (j+1) r' (hij (j+1) h)).1];exact(hCl2 (j+1) r' (hij (j+1) h)).2))
   .have:j=last.length:=by omega
    subst this;simp;exact Wk.here (by rw[jBv])
  .simp;exact zH4 (hT _ (jA _)) (by simp)
@[simp]theorem zPM:∀(X:List wH) (k:Nat),dK k (X.map nT)=true
 |[],k=>rfl
 |t::X,k=>by simp[zPM X k]
@[simp]theorem zUp{rf g}:∀(X:List wH),vwL rf g (X.map nT)=X.map nT
 |[]=>by simp
 |t::X=>by simp[zUp X]
theorem zKx{P:Program} {U:St}{f:FuncId}{l n:Nat}{e:TypeId}{sz:Nat}{cs:wE}(pre:wE)(hU:U[l]?=some (.row false e sz n cs)){Q:Out->St->Prop}(h:aH P f (pre++[.sl n cs]) (U.set l (.row true e sz n cs)) Q):aH P f (pre++[.row l n]) U Q:=by
 intro H L w vs hs hvs;obtain⟨us,ws,rfl,h0,h00⟩:=z8.split hvs;obtain⟨v,vs',rfl,h1,h2⟩:=qC h00;have:=jK h2;subst this;obtain⟨H',hn,hr⟩:=zMZ hs hU h1;refine(h H' L w (us++[v]) hn.st (z8.append (z8.mono hn.step.hle hn.lle pre h0) (qV hr jR))).mono fun e w' hh=>?_
 obtain⟨o,U',H2,L2,g1,g2,g3⟩:=hh;exact⟨o,U',H2,L2,g1,hn.trans g2,g3⟩
def zKj:K:=(G [kMi 17 0] (K.block 2 (K.loop (Z (G [M 76 17,M 77 16,kN 78 77,kB 79 76 78 .lss,M 80 79,T 80 true (M 81 11),T 80 true (kN 82 81),T 80 true (kBi 83 82 65 .lss),kPf 84 80 83] (Y 84 ks (K.exit 2))) (Z (K.block 3 (K.dops [(0,0,M 87 11),(1,0,M 88 1),(2,0,M 89 12),(3,0,kX 90 88 89 3),(4,0,J 91 90 3),(5,0,kd 92 31 3 1 [ki,ki,ki] [(0,3,(kt 91))]),(6,0,M 93 16),(7,0,M 94 17),(8,0,kX 95 93 94 1),(9,0,L 96 95 1),(10,0,kP 97 31 3 24 92 96),(11,0,kd 98 28 1 1 [kl] [(0,1,(kt 97))]),(12,0,kP 99 28 1 24 87 98),(13,0,M 11 99)])) (K.ops [M 85 17,kBi 86 85 1 .add,M 17 86]))))))
def zUF:K:=G [kO 5 0,kO 7 2,kO 8 3,kMn 10] (Z (G [J 18 7 3,J 19 8 3,⟨none,.eqs (some 20) false [.i,.i,.i] (kt 18) (kt 19)⟩] (Y 20 (G [kd 21 28 1 1 [kl] [(0,1,(.const kl))],M 10 21] kr) ks)) (G [kMn 11] (Z (G [kMi 12 0] (K.block 0 (K.loop (Z (G [M 22 12,M 23 1,kN 24 23,kB 25 22 24 .lss,M 26 25,T 26 true (M 27 11),T 26 true (kN 28 27),T 26 true (kBi 29 28 65 .lss),kPf 30 26 29] (Y 30 ks (K.exit 0))) (Z (K.block 1 (Z (K.wk (K.dops [(0,1,J 34 5 2),(1,0,M 35 1),(2,0,M 36 12),(3,1,kX 37 35 36 3),(4,1,J 38 37 3),(5,1,kC 39 13 [(kt 34),(kt 38)]),(6,0,M 33 39),(7,0,kE 40 33 0),(8,0,kE 41 33 1),(9,0,kE 42 33 2),(10,304,⟨none,.alr (some 13) 4 kz2⟩),(11,305,⟨none,.alr (some 14) 5 kz2⟩),(12,0,S 13 40 5),(13,0,S 14 41 5),(14,0,M 15 42)])) (Z (G [D 43 13 0,L 44 43 1,kQi 45 44 3 true,M 46 45,T 46 false (D 47 14 0),T 46 false (L 48 47 1),T 46 false (kQi 49 48 3 true),kPt 50 46 49,M 51 50,T 51 false (D 52 13 1),T 51 false (J 53 52 3),T 51 false (J 54 7 3),⟨some (51,false),.eqs (some 55) true [.i,.i,.i] (kt 53) (kt 54)⟩,kPt 56 51 55,M 57 56,T 57 false (M 58 4),T 57 false (D 59 14 1),T 57 false (J 60 59 3),T 57 false (kC 61 33 [(kt 58),(kt 60)]),kPt 62 57 61] (Y 62 (K.exit 1) ks)) (Z (K.dops [(0,1,J 63 5 2),(1,0,M 64 1),(2,1,D 65 14 1),(3,1,J 66 65 3),(4,1,J 67 8 3),(8,1,D 71 14 1),(9,1,J 72 71 3),(5,0,kd 68 31 3 0 [] []),(6,0,M 69 4),(7,0,kP 70 31 3 24 68 69),(10,0,kd 73 31 3 1 [ki,ki,ki] [(0,3,(kt 72))]),(11,0,kP 74 31 3 24 70 73),(12,4,kC 75 55 [(kt 63),(kt 64),(kt 66),(kt 67),(kt 74)]),(13,0,
 M 16 75)]) (K.wk zKj))))) (K.wk (K.ops [M 31 12,kBi 32 31 1 .add,M 12 32]))))))) (G [M 100 11,M 10 100] kr))))
def qEj:Nat->Option wD:=fun|7=>k_ [1,0,0,1,1,1,0,0,0,0,304,305,0,0,0] | 9=>some [(0,1),(1,0),(2,1),(3,1),(4,1),(8,1),(9,1),(5,0),(6,0),(7,0),(10,0),(11,0),(12,4),(13,0)]|_=>none
theorem qCN:kx f55 qEj zUF:=mz (by kernel_rfl)
def fS(p:Prg)(at_ to:Id)(out:List wF):St:=[.box (zT p),.box (zG at_),.box (zG to),.row false 28 1 out.length (jM out)]
def nI(out R:List wF)(x:Id)(k:Nat):List wF:=out++(R.take k).map (x::·)
theorem zXI(p:Prg)(at_ to:Id)(all met:wF)(i:Nat)(hi:i<all.length)(hall:all.length<=100)(out R:List wF)(ho:out.length<65)(hR:R.length<=65)(hR2:∀q∈R,q.length<=1000)(Q:Ex->wJ)
 (hQ:∀E' S',bQ 0 (qK [(1,.sl all.length (zP all)),(4,.sl met.length (zP met)),(5,.ptr 0 0),(7,.ptr 1 0),(8,.ptr 2 0),(11,.row 3 ((out++R.map (all[i]::·)).take 65).length),(12,int i)]) (fS p at_ to ((out++R.map (all[i]::·)).take 65)) E' S'->Q .norm E' S') :
 wpK prog 0 zKj Q (qK [(1,.sl all.length (zP all)),(4,.sl met.length (zP met)),(5,.ptr 0 0),(7,.ptr 1 0),(8,.ptr 2 0),(11,.row 3 out.length),(12,int i),(16,.sl R.length (jM R))]) (fS p at_ to out):=by
 have hP:=eP p;unfold zKj;simp[fS,hP,zG];refine qM (S:=Nat) (fun k=>[(1,.sl all.length (zP all)),(4,.sl met.length (zP met)),(5,.ptr 0 0),(7,.ptr 1 0),(8,.ptr 2 0),(11,.row 3 (nI out R all[i] k).length),(12,int i),(16,.sl R.length (jM R)),(17,int k)]) (fun k=>fS p at_ to (nI out R all[i] k)) (fun k=>k<=R.length/\(nI out R all[i] k).length<=65) (fun k=>R.length-k) 0 ⟨by omega,by simp[nI];omega⟩
  (mw [0,1,2,3] 0 (by rfl) (by simp[fS,hP,zG,nI])) ?_
 rintro k ⟨hk,hlen⟩;have hstep:∀(h:k<R.length),nI out R all[i] (k+1)=nI out R all[i] k++[all[i]::R[k]]:=fun h=>by unfold nI;rw[jA8 h,jBl,jAp];rfl
 have hfin:(k=R.length\/65<=(nI out R all[i] k).length)->(out++R.map (all[i]::·)).take 65=nI out R all[i] k:=fun h=>by
  rcases h with h|h
  .subst h;unfold nI at hlen ⊢;rw[jAr]at hlen ⊢;exact jAc hlen
  .have e:out++R.map (all[i]::·)=nI out R all[i] k++(R.drop k).map (all[i]::·):=by unfold nI;rw[jAp,<-jBl,jC0]
   rw[e,jBz (by omega),jAc (by omega)]
 generalize nI out R all[i] k=o at *
 by_cases h:k<R.length
 .have hI:(k:Int)<R.length:=by omega
  have hw:=z6 h (show R.length<=maxLen by simp[maxLen];omega);by_cases h65:o.length<65
  .have h65':(o.length:Int)<65:=by omega
   have hne:R≠[]:=fun e=>by rw[e]at h;simp at h
   have hna:all≠[]:=fun e=>by rw[e]at hi;simp at hi
   have hql:=hR2 R[k] (jA3 h);simp[fS,hP,zG,h,hI,h65,h65',hne,hna,hi,yC hi,iB h];intro _;refine⟨fun hnil=>?_,fun hnn=>?_⟩
   .refine⟨⟨by simp[maxLen];omega,by omega⟩,?_⟩;exact zN (k+1) ⟨h,by rw[hstep h];simp;omega⟩ (by omega) (mw [0,1,2,3] 1 (by rfl) (by simp[fS,hP,zG,hstep h,mW,iA,hnil,zP,hw]))
   .refine⟨⟨by simp[maxLen];omega,by omega⟩,⟨by simp[maxLen];omega,by omega⟩,?_⟩;exact zN (k+1) ⟨h,by rw[hstep h];simp;omega⟩ (by omega) (mw [0,1,2,3] 1 (by rfl) (by simp[fS,hP,zG,hstep h,mW,iA,zP,jCj 1,hw]))
  .have h65':¬(o.length:Int)<65:=by omega
   have he:=hfin (.inr (by omega));rw[he]at hQ;simp[fS,hP,zG,h,hI,h65,h65'];exact fun _=>hQ _ _ (mw [0,1,2,3] 0 (by rfl) (by simp[fS,hP,zG]))
 .have hI:¬(k:Int)<R.length:=by omega
  have he:=hfin (.inl (by omega));rw[he]at hQ;simp[fS,hP,zG,h,hI];exact fun _=>hQ _ _ (mw [0,1,2,3] 0 (by rfl) (by simp[fS,hP,zG]))
theorem zFB{L:wR}{to:Id}:∀(n:Nat) (at_:Id) (met:wF),∀q∈yP L to n at_ met,q.length<=n
 | 0,at_,met,q,h=>by
  unfold yP at h;split at h
  .simp at h;simp[h]
  .cases h
 |n+1,at_,met,q,h=>by
  unfold yP at h;split at h
  .simp at h;simp[h]
  .rw[List.mem_flatMap]at h;obtain⟨e,_,h⟩:=h;split at h
   .rw[jAk]at h;obtain⟨q',h',rfl⟩:=h;have:=zFB n e.to (met++[e.to]) q' h';simp;omega
   .cases h
theorem zNU(p:Prg)(to:Id)(n:Nat)(at_:Id)(met:wF)(i:Nat):(b7 p to n at_ met i).length<=65:=by unfold b7;rw[jAq];omega
def zKd(p:Prg)(to:Id)(n:Nat):Prop:=∀(at_:Id) (met:wF),met≠[]->o9 (jV p) met<=n->met.length+n<=900 ->
 my 55 [.agg (zT p),.sl (yG p).length (zP (yG p)),.agg (zG at_),.agg (zG to),.sl met.length (zP met)] []
  (.sl ((yP (jV p) to (n+1) at_ met).take 65).length (jM ((yP (jV p) to (n+1) at_ met).take 65))) []
theorem zFK(p:Prg)(hp:p.defs.length<=100)(hcv:(yG p).length<=100)(to:Id)(n:Nat)(ih:∀k,n=k+1->zKd p to k):zKd p to n:=by
 intro at_ met hme hfree hml
 have hP:=eP p;refine zO func55 rfl qCN (rs:=[.slot 10]) (by kernel_rfl) ?_;unfold zUF;by_cases hat:at_=to
 .have he:(yP (jV p) to (n+1) at_ met).take 65=[[]]:=by unfold yP;rw[if_pos hat];rfl
  rw[he];subst hat;simp[hP,zG];exact zA 0 (by simp[jM])
 .have hfn:=zNT p to n at_ met hat
  simp[hP,zG,hat];refine qM (S:=Nat) (fun i=>[(1,.sl (yG p).length (zP (yG p))),(4,.sl met.length (zP met)),(5,.ptr 0 0),(7,.ptr 1 0),(8,.ptr 2 0),(11,.row 3 (b7 p to n at_ met i).length),(12,int i)]) (fun i=>fS p at_ to (b7 p to n at_ met i)) (fun i=>i<=(yG p).length) (fun i=>(yG p).length-i) 0 (by simp)
   ((jW (t:=11) (by simp) 28 1).trans (mw [0,1,2,3] 0 (by rfl) (by simp[fS,hP,zG,b7]))) ?_
  intro i hi;have hlen:=zNU p to n at_ met i
  by_cases h:i<(yG p).length
  .have hI:(i:Int)<(yG p).length:=by omega
   by_cases h65:(b7 p to n at_ met i).length<65
   .have h65':((b7 p to n at_ met i).length:Int)<65:=by omega
    have hne:yG p≠[]:=fun e=>by rw[e]at h;simp at h
    have hs:=zKS p to n at_ met h
    have hw:=z6 h (show (yG p).length<=maxLen by simp[maxLen];omega);have hle:=zDS p (by omega) (yG p)[i];have hskip:oD p to n at_ met (yG p)[i]=[]->b7 p to n at_ met (i+1)=b7 p to n at_ met i:=fun e=>by rw[hs,e];simp;exact jAc hlen
    simp[fS,hP,zG,hI,h65,h65',h];intro _;refine⟨_,_,aG 2,?_⟩;simp[List.replicate,h,hne,yC h];refine aO hle (by simp[hP,zG]) (by simp[bT,zB]) ?_;have hz:Typ.zero.k=0:=rfl;cases hv:yJ p (yG p)[i]with
    |none =>
     have hpe:=hskip (by simp[oD,v8,hv]);simp[bT,zB,hz];refine⟨qK [(1,.sl (yG p).length (zP (yG p))),(4,.sl met.length (zP met)),(5,.ptr 0 0),(7,.ptr 1 0),(8,.ptr 2 0),(11,.row 3 (b7 p to n at_ met i).length),(12,int i)],fS p at_ to (b7 p to n at_ met i),mw [0,1,2,3] 0 (by rfl) (by simp[fS,hP,zG]),?_⟩;simp[fS,hP,zG];exact zN (i+1) h (by omega) (mw [0,1,2,3] 0 (by rfl) (by simp[fS,hP,zG,hpe,hw]))
    |some ab =>
     obtain⟨a,b⟩:=ab;by_cases ha:a.k=3
     .by_cases hb:b.k=3
      .have hed:v8 p (yG p)[i]=some ⟨(yG p)[i],a.id,b.id⟩:=by simp[v8,hv,ha,hb]
       by_cases hfro:a.id=at_
       .by_cases hmet:b.id∈met
        .have hpe:=hskip (by simp[oD,hed,hmet]);simp[bT,zB,ha,hb,hfro,cC];refine mu (zIW met b.id) (by simp[zG]) ?_;simp[hmet];refine⟨qK [(1,.sl (yG p).length (zP (yG p))),(4,.sl met.length (zP met)),(5,.ptr 0 0),(7,.ptr 1 0),(8,.ptr 2 0),(11,.row 3 (b7 p to n at_ met i).length),(12,int i)],fS p at_ to (b7 p to n at_ met i),mw [0,1,2,3] 0 (by rfl) (by simp[fS,hP,zG]),?_⟩;simp[fS,hP,zG];exact zN (i+1) h (by omega) (mw [0,1,2,3] 0 (by rfl) (by simp[fS,hP,zG,hpe,hw]))
        .simp[bT,zB,ha,hb,hfro,cC];refine mu (zIW met b.id) (by simp[zG]) ?_;simp[hmet];refine⟨fun e=>(hme e).elim,fun _=>?_⟩;refine⟨⟨by simp[maxLen];omega,by omega⟩,⟨by simp[maxLen];omega,by omega⟩,?_⟩;have heL:(⟨(yG p)[i],a.id,b.id⟩:Edg)∈jV p:=by rw[zBB,jCs];exact⟨_,jA3 h,hed⟩
         have hlt:o9 (jV p) (met++[b.id])<o9 (jV p) met:=gE heL hmet;obtain⟨k,rfl⟩:∃k,n=k+1:=⟨n-1,by omega⟩;have c:=ih k rfl b.id (met++[b.id]) (by simp) (by omega) (by simp;omega);have hcm:zP (met++[b.id])=zP met++[int b.id.a,int b.id.b,int b.id.c]:=by simp[j9,zP]
         have hlm:(met++[b.id]).length=met.length+1:=by simp
         rw[hcm,hlm]at c;have hpart:oD p to (k+1) at_ met (yG p)[i]=(yP (jV p) to (k+1) b.id (met++[b.id])).map ((yG p)[i]::·):=by simp[oD,hed,hfro,hmet]
         rw[hpart,<-List.map_take]at hs;have hq:∀q∈(yP (jV p) to (k+1) b.id (met++[b.id])).take 65,q.length<=1000:=fun q hq=>by have:=zFB _ _ _ q (jCd hq);omega
         have hR:((yP (jV p) to (k+1) b.id (met++[b.id])).take 65).length<=65:=by rw[jAq];omega
         generalize (yP (jV p) to (k+1) b.id (met++[b.id])).take 65=R at *
         refine⟨_,_,zKx [_,_,_,_] (l:=6) rfl (b6 c [] (by simp) trivial (by simp[hP,zG]) ⟨rfl,rfl⟩),?_⟩;simp;refine⟨_,_,kf [0,1,2,3] 0 (by rfl) ?_ ?_,zXI p at_ to (yG p) met i h hcv (b7 p to (k+1) at_ met i) R h65 hR hq _ fun E S hw'=>?_⟩
         .simp[fS,hP,zG]
         .simp
         .rw[<-hs]at hw';simp;refine⟨_,_,hw',?_⟩;simp[fS,hP,zG];exact zN (i+1) h (by omega) (mw [0,1,2,3] 0 (by rfl) (by simp[fS,hP,zG,hw]))
       .have hpe:=hskip (by simp[oD,hed,hfro]);simp[bT,zB,ha,hb,cC,hfro];refine⟨qK [(1,.sl (yG p).length (zP (yG p))),(4,.sl met.length (zP met)),(5,.ptr 0 0),(7,.ptr 1 0),(8,.ptr 2 0),(11,.row 3 (b7 p to n at_ met i).length),(12,int i)],fS p at_ to (b7 p to n at_ met i),mw [0,1,2,3] 0 (by rfl) (by simp[fS,hP,zG]),?_⟩;simp[fS,hP,zG];exact zN (i+1) h (by omega) (mw [0,1,2,3] 0 (by rfl) (by simp[fS,hP,zG,hpe,hw]))
      .have hpe:=hskip (by simp[oD,v8,hv,hb]);simp[bT,zB,ha,hb];refine⟨qK [(1,.sl (yG p).length (zP (yG p))),(4,.sl met.length (zP met)),(5,.ptr 0 0),(7,.ptr 1 0),(8,.ptr 2 0),(11,.row 3 (b7 p to n at_ met i).length),(12,int i)],fS p at_ to (b7 p to n at_ met i),mw [0,1,2,3] 0 (by rfl) (by simp[fS,hP,zG]),?_⟩;simp[fS,hP,zG];exact zN (i+1) h (by omega) (mw [0,1,2,3] 0 (by rfl) (by simp[fS,hP,zG,hpe,hw]))
     .have hpe:=hskip (by simp[oD,v8,hv,ha]);simp[bT,zB,ha];refine⟨qK [(1,.sl (yG p).length (zP (yG p))),(4,.sl met.length (zP met)),(5,.ptr 0 0),(7,.ptr 1 0),(8,.ptr 2 0),(11,.row 3 (b7 p to n at_ met i).length),(12,int i)],fS p at_ to (b7 p to n at_ met i),mw [0,1,2,3] 0 (by rfl) (by simp[fS,hP,zG]),?_⟩;simp[fS,hP,zG];exact zN (i+1) h (by omega) (mw [0,1,2,3] 0 (by rfl) (by simp[fS,hP,zG,hpe,hw]))
   .have h65':¬((b7 p to n at_ met i).length:Int)<65:=by omega
    have hfull:=zKR p to n at_ met (i:=i) (by omega) hi
    rw[hfn]at hfull;simp[fS,hP,zG,hI,h65,h65',h];exact fun _=>zA 2 (by simp[<-hfull])
  .have hie:i=(yG p).length:=by omega
   subst hie;rw[hfn];simp[fS,hP,zG];exact fun _=>zA 2 (by simp)
theorem zMC(p:Prg)(hp:p.defs.length<=100)(hcv:(yG p).length<=100)(to:Id):∀n,zKd p to n
 | 0=>zFK p hp hcv to 0 (fun k e=>by omega)
 |n+1=>zFK p hp hcv to (n+1) (fun k e=>by
  have:k=n:=by omega
  subst this;exact zMC p hp hcv to k)
theorem zOP(hf:Fit p hs)(fro to:Id)(h64:(yY p fro to).length<=64):my 21 [.agg (zT p),.agg (zG fro),.agg (zG to)] [] (fZ p fro to) []:=by
 have hP:=eP p;have h8:=hf.len8;have hcv:(yG p).length<=100:=by have h1:=zMy p p.defs.length;rw[zMx]at h1;omega
 have hel:=zD6 hf;have hfr:=zID (L:=jV p) [fro];have hfrom:=zMC p (by omega) hcv to (jV p).length fro [fro] (by simp) hfr (by simp;omega);have hsame:yP (jV p) to ((jV p).length+1) fro [fro]=yY p fro to:=zKF _ _ _ _ _ (fun x=>Iff.rfl) (by omega) hfr;have htk:(yY p fro to).take 65=yY p fro to:=jAc (by omega);rw[hsame,htk]at hfrom;have h64':¬(64:Int)<(yY p fro to).length:=by omega
 refine mq [] [.slot 6,.slot 7] func21 (by kernel_rfl) ?_
 (conv in kq _ _=>cbv)
 simp[hP,zG];refine mu (zEA p (by omega) fro) (by simp[hP,zG]) ?_;by_cases h1:bE p fro=true
 .simp[h1];refine mu (zEA p (by omega) to) (by simp[hP,zG]) ?_;by_cases h2:bE p to=true
  .simp[h2];refine zZ (zQf p (by omega)) (by simp[hP]) (by simp) ?_;simp;refine zZ hfrom (by simp[hP,zG,zP]) (by simp) ?_;simp[h64'];exact fun _=>zA 0 (by simp[fZ,h1,h2])
  .have h2':bE p to=false:=by simpa using h2
   simp[h2'];exact zA 0 (by simp[fZ,h2'])
 .have h1':bE p fro=false:=by simpa using h1
  simp[h1'];exact zA 0 (by simp[fZ,h1'])
end Go.Proofs.YtdnelmeboihpkaaGreatDoor
