/- The maker's programs, walked: modules, definitions, slots. -/
import Derived.Test.YtdnelmeboihpkaaGreatDoorX14
set_option linter.unusedVariables false
set_option maxHeartbeats 8000000
set_option maxRecDepth 100000
set_option linter.unusedSimpArgs false
open Go.Proofs.Tryz
namespace Go.Proofs.YtdnelmeboihpkaaGreatDoor
open Go.Abs
variable{i:Nat}
theorem zJu{l:List ByteArray}(h:i<l.length):(yR l).drop i=.lit (.string l[i])::yR (l.drop (i+1)):=by have:=fL (enc:=zR9) (k:=1) (fun _=>rfl) h;rw[Nat.mul_one]at this;exact this
theorem zHh(mods:Int)(ps:List Pln)(c:Int)(h:i<ps.length):uM mods ps c (i+1)=uM mods ps c i++(if ps[i].mod=c then [idR (mods+i)]else []):=by
 simp only[uM,List.range_succ,jD7,jBs]
 congr 1
 simp only[List.filter_cons,jA1 h,List.filter_nil,decide_eq_true_eq];split<;>simp
theorem zPy{mods:Int}{ps:List Pln}{c:Int}(h:∀p∈ps,p.mod≠c)(i:Nat):uM mods ps c i=[]:=by
 simp only[uM,List.map_eq_nil_iff,List.filter_eq_nil_iff];intro j _;split
 .rename_i p hp;have:=h p (jC3 hp)
  simpa using this
 .simp
theorem zKf(mods:Int)(ps:List Pln)(c:Int)(i:Nat):(uM mods ps c i).length<=i:=by simp only[uM,jAe];exact jBt (jCn _ _) (by simp)
def m0C:wE:=[int (idR 0).a,int (idR 0).b,int (idR 0).c,.lit (.string ⟨#[99,111,114,101]⟩)]
def m1C:wE:=[int (idR 1).a,int (idR 1).b,int (idR 1).c,.lit (.string ⟨#[109,105,108,108]⟩),.fsl 1 (zK (idR 0))]
def MC:Nat->wE
 | 0=>[]
 | 1=>m0C++[.nil,.nil]
 |_=>m0C++[.nil,.nil]++m1C++[.nil]
def MR(nm k0 k1:Nat):wE:=if nm=1 then m0C++[.row 5 k1,.row 4 k0]else m0C++[.nil,.row 4 k0]++m1C++[.row 5 k1]
theorem zO0{rf:Bool->Nat->Nat->A}{g:Nat->wC}{nm k0 k1:Nat}(h4:g 4=some 4)(h5:g 5=some 5):vwL rf g (MR nm k0 k1)=MR nm k0 k1:=by unfold MR;split<;>simp[m0C,m1C,h4,h5,zK]
def stB(nm:Nat)(ps:List Pln)(i:Nat):St :=
 [.box [.nil,.nil],.box [.row 2 nm,.row 3 i],.row false 112 6 nm (MR nm (uM nm ps 0 i).length (uM nm ps 1 i).length),.row false 41 31 i (z6 ((pB nm ps).take i)),
  .row false 31 3 (uM nm ps 0 i).length (zT (uM nm ps 0 i)),.row false 31 3 (uM nm ps 1 i).length (zT (uM nm ps 1 i))]
theorem zGk(next:Int)(p:Pln){k:Nat}(h:k<p.types.length):jS ((eF next p).take (k+1))=jS ((eF next p).take k)++j8 (zHF next p k):=by
 have:=zCv (l:=eF next p) (i:=k) (by simpa using h);rw[this]
 congr 2
 simp[eF]
theorem qHv(l:wB)(hl:∀x∈l,w64 x=x)(nm:Nat)(hnm:nm=1\/nm=2)(ps:List Pln)(hps:ps=qJ l nm)(p:Prg)
 (hC:wpK prog 0 zNx (zLZ p) (qV [(0,.sl l.length (yH l)),(2,.ptr 0 0),(4,.ptr 1 0),(8,int (cL nm ps ps.length))])
  [.box [.nil,.nil],.box [.sl (zD7 nm ps).length (qH (zD7 nm ps)),.row 2 ps.length],.row false 41 31 ps.length (z6 (pB nm ps))]) :
 wpK prog 0 zQJ (zLZ p) (qV [(0,.sl l.length (yH l)),(2,.ptr 0 0),(3,int nm),(4,.ptr 1 0)])
  [.box [.nil,.nil],.box [.row 2 nm,.row 3 0],.row false 112 6 nm (MC nm),.row false 41 31 0 []]:=by
 have hpl:=zSS l nm (by omega) (by omega) hl;have hok:=fM l nm (by omega) (by omega) hl;have hlen:=(cF l nm).2;rw[<-hps]at hpl hok hlen;have hnr:=mZ (mods:=nm) (ps:=ps) (by omega) (fun p hp=>(hok p hp).t6);have w0:=zY ((nm:Int)+ps.length) (by omega);have start:b9 0 (qV [(0,.sl l.length (yH l)),(2,.ptr 0 0),(3,int nm),(4,.ptr 1 0),(7,.sl ps.length (aI ps)),(8,int (nm+ps.length)),(9,int 0)]) (stB nm ps 0)
  (qV [(0,.sl l.length (yH l)),(2,.ptr 0 0),(3,int nm),(4,.ptr 1 0),(7,.sl ps.length (aI ps)),(8,int (nm+ps.length)),(9,int 0)])
  [.box [.nil,.nil],.box [.row 2 nm,.row 3 0],.row false 112 6 nm (MC nm),.row false 41 31 0 []]:=by
  rcases hnm with rfl|rfl
  .exact((m9 (l:=2) (o:=5) rfl rfl 31 3).trans (m9 (l:=2) (o:=4) rfl rfl 31 3)).trans (mu [0,1,2,3,4,5] 0 (by rfl) (by simp[stB,MC,MR,m0C,m1C,uM]))
  .exact((m9 (l:=2) (o:=5) rfl rfl 31 3).trans (m9 (l:=2) (o:=11) rfl rfl 31 3)).trans (mu [0,1,2,3,4,5] 0 (by rfl) (by simp[stB,MC,MR,m0C,m1C,uM,zK]))
 have hl1:(pB nm ps).length=ps.length:=zOK _ _;unfold zQJ;simp;refine mq hpl (by simp) ?_;simp[w0];intro _;refine qK (S:=Nat) (fun i=>[(0,.sl l.length (yH l)),(2,.ptr 0 0),(3,int nm),(4,.ptr 1 0),(7,.sl ps.length (aI ps)),(8,int (cL nm ps i)),(9,int i)]) (fun i=>stB nm ps i) (fun i=>i<=ps.length) (fun i=>ps.length-i) 0 (by simp)
  (b9.trans (m_ [0,1,2,3] 0 (by rfl) (by rcases hnm with rfl|rfl<;>simp[MC,m0C,m1C]) (by simp)) start) ?_
 intro i hi;by_cases h:i<ps.length
 .have hpk:=hok _ (jA0 h);obtain⟨n0,n1⟩:=hnr i;have hns:=zFm nm ps h;have hdg:=zC0 nm ps h;have hst:=zCt (l:=pB nm ps) (i:=i) (by omega);rw[hdg]at hst;clear hdg;have hcg:=zJs h;have i0:=zHh nm ps 0 h;have i1:=zHh nm ps 1 h;have l0:=zKf nm ps 0 i;have l1:=zKf nm ps 1 i;have hi8:(i:Int)<=8:=by omega
  have wi:=jZ i (by omega);have wmi:=zY ((nm:Int)+i) (by omega);have hcg5:List.drop (i*11+5) (aI ps)=(dZ ps[i]++aI (ps.drop (i+1))).drop 5:=by rw[<-jBc,hcg]
  have hb5:i*11+5+5<=ps.length*11:=by omega
  generalize ps[i]=q at *
  generalize cL nm ps i=nx at *
  simp[stB,h,hcg,hcg5,hb5,dZ,wmi];intro _;refine yX (uH (nm+i)) (by simp) (by simp) ?_;simp[h,hcg,hcg5,hb5,dZ];refine yX (uH q.mod) (by simp) (by simp) ?_;simp[h,hcg,hcg5,hb5,dZ,zK];refine qK (S:=Nat) (fun k=>[(0,.sl l.length (yH l)),(2,.ptr 0 0),(3,int nm),(4,.ptr 1 0),(7,.sl ps.length (aI ps)),(8,int (nx+k)),(9,int i),(10,.ptr 6 0),(11,int k)])
   (fun k=>stB nm ps i++[.box [int (idR (nm+i)).a,int (idR (nm+i)).b,int (idR (nm+i)).c,int q.kind,int (idR q.mod).a,int (idR q.mod).b,int (idR q.mod).c,.lit (.string q.name),.row 7 k,int q.out.k,int q.out.id.a,int q.out.id.b,int q.out.id.c,.sl q.out.kids.length (jQ q.out.kids),int 0,int 0,int 0,int 0,int 0,int 0,int 0,int 0,int 0,int 0,int 0,int 0,.nil,.nil,.nil,int 0,.nil],
    .row false 85 11 k (jS ((eF nx q).take k))]) (fun k=>k<=q.types.length) (fun k=>q.types.length-k) 0 (by simp)
   ((y7 (l:=6) (o:=8) rfl rfl 85 11).trans (mu [0,1,2,3,4,5,6,7] 0 (by rfl) (by simp[stB,zO0]))) ?_
  intro k hk;by_cases hkl:k<q.types.length
  .have hnl:=hpk.names;have hkn:k<q.names.length:=by omega
   have hN:=zJu hkn;have hT:=mU hkl;have hT5:k*5+5<=q.types.length*5:=by omega
   have hS:=zGk nx q hkl;have t6:=hpk.t6;have wnk:=zY (nx+(k:Int)+1) (by omega);have wk:=jZ k (by omega);have hcg2:List.drop (i*11+2) (aI ps)=(dZ q++aI (ps.drop (i+1))).drop 2:=by rw[<-jBc,hcg]
   have hsv:zHF nx q k=⟨idR (nx+k),q.names[k],q.types[k],if q.kind=4 then q.most.getD k 0 else 0,k⟩:=by simp[zHF,jB7,hkn,hkl]
   rw[hsv]at hS;by_cases hk4:q.kind=4
   .have hkm:k<q.most.length:=by have:=hpk.most hk4;omega
    have hM:=cO hkm;have hmg:q.most[k]?.getD 0=q.most[k]:=by simp[hkm]
    have hkm':k+1<=q.most.length:=hkm;simp[stB,h,hcg,dZ,hkl]
    intros
    refine yX (uH (nx+k)) (by simp) (by simp) ?_;simp[h,hcg,dZ,hkn,hkl,hN,hT,hT5,zB,hk4,zK,hM,hkm,hkm']
    intros
    refine⟨⟨by simp[maxLen];omega,by omega⟩,?_⟩;exact zO (k+1) hkl (by omega) (m_ [0,1,2,3,4,5,6,7] 0 (by rfl) (by rw[hS];simp[stB,zO0,j8,hk4,hmg]) (by simp[wk,wnk];omega))
   .simp[stB,h,hcg,dZ,hkl]
    intros
    refine yX (uH (nx+k)) (by simp) (by simp) ?_;simp[h,hcg,dZ,hkn,hkl,hN,hT,hT5,zB,hk4,zK]
    intros
    refine⟨⟨by simp[maxLen];omega,by omega⟩,?_⟩;exact zO (k+1) hkl (by omega) (m_ [0,1,2,3,4,5,6,7] 0 (by rfl) (by rw[hS];simp[stB,zO0,j8,hk4]) (by simp[wk,wnk];omega))
  .have hke:k=q.types.length:=by omega
   subst hke;have hall:(eF nx q).take q.types.length=eF nx q:=jA9 (by simp);have t6:=hpk.t6;simp[stB,h,hcg,dZ]
   intros
   refine⟨qV [(0,.sl l.length (yH l)),(2,.ptr 0 0),(3,int nm),(4,.ptr 1 0),(7,.sl ps.length (aI ps)),(8,int (nx+q.types.length)),(9,int i),(10,.ptr 6 0)],stB nm ps i++[.box (zJ (zJz nm nx i q))],
    mu [0,1,2,3,4,5,6] 1 (by rfl) (by simp[stB,zO0,zJ,zJz,hall,Exp.zero,Id.zero,Typ.zero]),?_⟩
   unfold zWm;have m0:=hpk.mod0;have m1:=hpk.mod1;have hen:zJ (zJz nm nx i q)=zK (idR (nm+i))++(zJ (zJz nm nx i q)).drop 3:=rfl;have hcase:nm=1/\q.mod=0\/nm=2/\q.mod=0\/nm=2/\q.mod=1:=by omega
   have hd3:List.take 3 (zJ (zJz nm nx i q))=[int (idR (nm+i)).a,int (idR (nm+i)).b,int (idR (nm+i)).c]:=rfl;rcases hcase with ⟨rfl,hq⟩|⟨rfl,hq⟩|⟨rfl,hq⟩
   .have en:((1:Nat):Int)=1:=rfl;simp only[hq,en,if_true,if_false,show ((0:Int)=1)=False from by simp,show ((1:Int)=0)=False from by simp,jBa]at i0 i1 hst hns l0 l1 hd3;simp[stB,h,hcg,dZ,hq,MR,m0C,m1C,zK];refine⟨by simp[maxLen];omega,⟨by simp[maxLen];omega,by omega⟩,?_⟩;exact zO (i+1) h (by omega) (mu [0,1,2,3,4,5] 0 (by rfl) (by simp[stB,MR,m0C,m1C,zK,i0,i1,hst,hd3,yK,wi,hns]))
   all_goals
    have en:((2:Nat):Int)=2:=rfl;simp only[hq,en,if_true,if_false,show ((0:Int)=1)=False from by simp,show ((1:Int)=0)=False from by simp,jBa]at i0 i1 hst hns l0 l1 hd3;simp[stB,h,hcg,dZ,hq,MR,m0C,m1C,zK];refine⟨by simp[maxLen];omega,⟨by simp[maxLen];omega,by omega⟩,?_⟩;exact zO (i+1) h (by omega) (mu [0,1,2,3,4,5] 0 (by rfl) (by simp[stB,MR,m0C,m1C,zK,i0,i1,hst,hd3,yK,wi,hns]))
 .have hie:i=ps.length:=by omega
  subst hie;have hall:(pB nm ps).take ps.length=pB nm ps:=jA9 (by simp);simp[stB]
  intros
  rcases hnm with rfl|rfl
  .have hn1:uM ((1:Nat):Int) ps 1 ps.length=[]:=zPy (fun p hp=>by have:=(hok p hp).mod1;omega) _;have en:((1:Nat):Int)=1:=rfl;simp only[en]at hn1 hall;exact⟨_,_,mu [0,1,3] 2 (by rfl) (by simp[zD7,MR,m0C,m1C,gF,oF,hall,hn1]),hC⟩
  .have en:((2:Nat):Int)=2:=rfl;simp only[en]at hall;exact⟨_,_,mu [0,1,3] 2 (by rfl) (by simp[zD7,MR,m0C,m1C,gF,oF,hall,zK]),hC⟩
theorem zLh{e:Exp}{c:Int}(hc:c∈tmps e):∀{ks:wG},e∈ks->c∈yN ks
 |x::ks,h=>by
  simp only[yN,jAc];rcases jA3.1 h with rfl|h
  .exact .inl hc
  .exact .inr (zLh hc h)
theorem zNV:∀(ks:wG),ks.length<=(yN ks).length
 |[]=>jA _
 |e::ks=>by
  have:=zNV ks;have h1:1<=(tmps e).length:=by rw[gR,jA5,jAz];omega
  simp only[yN,jA5,jAb];omega
section
variable{N:Nat}{i:Id}{k n:Int}{r:Id}{t:Typ}{ks:wG}{ns:List ByteArray}
theorem y8(hb:∀c∈tmps (.mk i k n r t ks ns),0<=c/\c<N)(hl:(tmps (.mk i k n r t ks ns)).length<=1000000000)(hk:k≠2)(hs:∀e∈ks,e.under N):(Exp.mk i k n r t ks ns).under N:=by simp only[Exp.under,zBb];have:=zNV ks;simp only[tmps,jA5,jAz]at hl;exact⟨hb i.c (by simp[tmps]),fun h=>(hk h).elim,by omega,hs⟩
theorem dW(hb:∀c∈tmps (.mk i k n r t ks ns),0<=c/\c<N){e:Exp}(he:e∈ks):∀c∈tmps e,0<=c/\c<N:=fun c hc=>hb c (by simp only[tmps,jAc];exact .inl (zLh hc he))
theorem dX(hl:(tmps (.mk i k n r t ks ns)).length<=1000000000){e:Exp}(he:e∈ks):(tmps e).length<=1000000000:=by have:=zFS he;simp only[tmps,jA5,jAz]at hl;omega
end
variable{t:Typ}
theorem zS7{env:wJ}{x:Id}{n:Int}(h:fX env x n=some t):∃b∈env,b.id=x/\b.n=n/\b.typ=t:=by simp only[fX,jAj]at h;obtain⟨b,hb,rfl⟩:=h;have h1:=jDi hb;have h2:=jD8 hb;simp only[jA7,decide_eq_true_eq]at h2;exact⟨b,by simpa using h1,h2.1,h2.2,rfl⟩
variable{e:Exp}
theorem zTB{hs:wP}{own:Int}{N:Nat}{env:wJ}(h:WT hs own env e t):(∀b∈env,b.id.b=0->0<=b.id.c/\b.id.c<N)->(∀c∈tmps e,0<=c/\c<N)->(tmps e).length<=1000000000->e.under N:=by
 induction h with
 |int env i n h1 h2=>exact fun _ hb hl=>y8 hb hl (by omega) (by simp)
 |bool env i n h=>exact fun _ hb hl=>y8 hb hl (by omega) (by simp)
 |var env i n x t h =>
  intro he hb hl;simp only[Exp.under,zDd,and_true];obtain⟨b,h1,h2,_,_⟩:=zS7 h;exact⟨hb i.c (by simp[tmps]),fun _ h0=>by rw[<-h2]at h0 ⊢;exact he b h1 h0,by simp⟩
 |call env i k h ks ho hk hlen hw ih =>
  refine fun he hb hl=>y8 hb hl (by omega) fun e hm=>?_
  obtain⟨j,hj,rfl⟩:=jAn hm;exact ih j hj he (dW hb hm) (dX hl hm)
 |arith env i n a b h1 h2 ha hb' iha ihb =>
  refine fun he hb hl=>y8 hb hl (by omega) fun e hm=>?_
  have k1:=dW hb hm;have k2:=dX hl hm;simp only[jA3,jB,or_false]at hm;rcases hm with rfl|rfl
  .exact iha he k1 k2
  .exact ihb he k1 k2
 |less env i a b ha hb' iha ihb =>
  refine fun he hb hl=>y8 hb hl (by omega) fun e hm=>?_
  have k1:=dW hb hm;have k2:=dX hl hm;simp only[jA3,jB,or_false]at hm;rcases hm with rfl|rfl
  .exact iha he k1 k2
  .exact ihb he k1 k2
 |same env i a b u ha hb' iha ihb =>
  refine fun he hb hl=>y8 hb hl (by omega) fun e hm=>?_
  have k1:=dW hb hm;have k2:=dX hl hm;simp only[jA3,jB,or_false]at hm;rcases hm with rfl|rfl
  .exact iha he k1 k2
  .exact ihb he k1 k2
 |andor env i n a b h ha hb' iha ihb =>
  refine fun he hb hl=>y8 hb hl (by omega) fun e hm=>?_
  have k1:=dW hb hm;have k2:=dX hl hm;simp only[jA3,jB,or_false]at hm;rcases hm with rfl|rfl
  .exact iha he k1 k2
  .exact ihb he k1 k2
 |not env i a ha iha =>
  refine fun he hb hl=>y8 hb hl (by omega) fun e hm=>?_
  have k1:=dW hb hm;have k2:=dX hl hm;simp only[jA3,jB,or_false]at hm;subst hm;exact iha he k1 k2
 |join env i a b t ha hb' iha ihb =>
  refine fun he hb hl=>y8 hb hl (by omega) fun e hm=>?_
  have k1:=dW hb hm;have k2:=dX hl hm;simp only[jA3,jB,or_false]at hm;rcases hm with rfl|rfl
  .exact iha he k1 k2
  .exact ihb he k1 k2
 |len env i a t ha iha =>
  refine fun he hb hl=>y8 hb hl (by omega) fun e hm=>?_
  have k1:=dW hb hm;have k2:=dX hl hm;simp only[jA3,jB,or_false]at hm;subst hm;exact iha he k1 k2
 |ite env i a b c t ha hb' hc iha ihb ihc =>
  refine fun he hb hl=>y8 hb hl (by omega) fun e hm=>?_
  have k1:=dW hb hm;have k2:=dX hl hm;simp only[jA3,jB,or_false]at hm;rcases hm with rfl|rfl|rfl
  .exact iha he k1 k2
  .exact ihb he k1 k2
  .exact ihc he k1 k2
 |lets env i a b u t ns hn ha hb' iha ihb =>
  refine fun he hb hl=>y8 hb hl (by omega) fun e hm=>?_
  have k1:=dW hb hm;have k2:=dX hl hm;have ki:=hb i.c (by simp[tmps]);simp only[jA3,jB,or_false]at hm;rcases hm with rfl|rfl
  .exact iha he k1 k2
  .refine ihb (fun b hb0 h0=>?_) k1 k2;rcases jAc.1 hb0 with hb0|hb0
   .exact he b hb0 h0
   .rw[jAp.1 hb0];exact ki
 |record env i k h ks hk hlen hw ih =>
  refine fun he hb hl=>y8 hb hl (by omega) fun e hm=>?_
  obtain⟨j,hj,rfl⟩:=jAn hm;exact ih j hj he (dW hb hm) (dX hl hm)
 |field env i k h j hj a hk ha iha =>
  refine fun he hb hl=>y8 hb hl (by omega) fun e hm=>?_
  have k1:=dW hb hm;have k2:=dX hl hm;simp only[jA3,jB,or_false]at hm;subst hm;exact iha he k1 k2
 |case env i k h j hj a hk ha iha =>
  refine fun he hb hl=>y8 hb hl (by omega) fun e hm=>?_
  have k1:=dW hb hm;have k2:=dX hl hm;simp only[jA3,jB,or_false]at hm;subst hm;exact iha he k1 k2
 |mtch env i k h a ks t ns hn hk hlen ha hw iha ih =>
  refine fun he hb hl=>y8 hb hl (by omega) fun e hm=>?_
  have k1:=dW hb hm;have k2:=dX hl hm;have ki:=hb i.c (by simp[tmps]);rcases jA3.1 hm with rfl|hm
  .exact iha he k1 k2
  .obtain⟨j,hj,rfl⟩:=jAn hm;refine ih j hj (fun b hb0 h0=>?_) k1 k2;rcases jAc.1 hb0 with hb0|hb0
   .exact he b hb0 h0
   .rw[jAp.1 hb0];exact ki
 |list env i t ks hw ih =>
  refine fun he hb hl=>y8 hb hl (by omega) fun e hm=>?_
  obtain⟨j,hj,rfl⟩:=jAn hm;exact ih j hj he (dW hb hm) (dX hl hm)
 |fold env i l s b u t ns hn hl' hs' hb' ihl ihs ihb =>
  refine fun he hb hl=>y8 hb hl (by omega) fun e hm=>?_
  have k1:=dW hb hm;have k2:=dX hl hm;have ki:=hb i.c (by simp[tmps]);simp only[jA3,jB,or_false]at hm;rcases hm with rfl|rfl|rfl
  .exact ihl he k1 k2
  .exact ihs he k1 k2
  .refine ihb (fun b hb0 h0=>?_) k1 k2;rcases jAc.1 hb0 with hb0|hb0
   .rcases jAc.1 hb0 with hb0|hb0
    .exact he b hb0 h0
    .rw[jAp.1 hb0];exact ki
   .rw[jAp.1 hb0];exact ki
structure Renamed(hs:List Hd)(k:Nat)(d:Dfn)(base:Int)(e:Exp)(f:Int->Id):Prop where
 body:d.body=lC f e
 wt:WT hs k (fE d) e d.res
 nd:(tmps e).Nodup
 num:e.num0
 len:(tmps e).length<=32768
 ids:∀(j:Nat) (h:j<(tmps e).length),f (tmps e)[j]=idR (base+j)
def nmV(l:wB):Nat:=(1+atV l 0 2).toNat
theorem zSH(l:wB)(hl:∀x∈l,w64 x=x):(nmV l:Int)=1+atV l 0 2/\(nmV l=1\/nmV l=2):=by obtain⟨a,b⟩:=yJ (i:=0) hl (most:=2) (by omega);unfold nmV;omega
structure PrgOk(l:List Int)(P:Prg):Prop where
 mods:P.mods=zD7 (nmV l) (qJ l (nmV l))
 heads:P.defs.map Dfn.hd=hsV l (nmV l)
 bodies:∃base:Nat->Int,base 0=cL (nmV l) (qJ l (nmV l)) (qJ l (nmV l)).length/\∀(k:Nat) (d:Dfn),P.defs[k]?=some d ->
  (fO d=false/\d.body=Exp.zero/\base (k+1)=base k)\/(fO d=true/\∃e f,Renamed (hsV l (nmV l)) k d (base k) e f/\base (k+1)=base k+(tmps e).length)
theorem zWW{hs:wP}{n:Nat}{ms:Nat->Mk}(hf:∀i<n,zNs hs i (ms i) (ms (i+1))):∀i≤n,(ms 0).temp<=(ms i).temp/\(∀j,i<=j->(ms i).defs[j]?=(ms 0).defs[j]?) /\
 ∀j<i,∀d,(ms 0).defs[j]?=some d->(fO d=false/\(ms i).defs[j]?=some d)\/(fO d=true/\∃e lo,(ms i).defs[j]?=some (d.wb e)/\BGood hs j d lo (ms i).temp e/\(ms 0).temp<=lo)
 | 0,_=>⟨jAf _,fun _ _=>rfl,fun j hj=>by omega⟩
 |i+1,hi=>by
  obtain⟨t,c1,c2⟩:=zWW hf i (by omega);obtain⟨d,hd,ht,hc⟩:=hf i (by omega);have hlt:=(jA4.1 hd).1;have hd0:=c1 i (jA _);rw[hd]at hd0;rcases hc with ⟨hk,he⟩|⟨⟨hk0,hk1⟩,e,he,hg⟩
  .have hbd:fO d=false:=by rcases hk with h|h<;>simp[fO,h]
   refine⟨by omega,fun j hj=>by rw[he];exact c1 j (by omega),fun j hj d' hd'=>?_⟩;rw[he];by_cases e:j=i
   .subst e;rw[<-hd0]at hd';cases hd';exact .inl ⟨hbd,hd⟩
   .rcases c2 j (by omega) d' hd' with h|⟨h,e,lo,h1,h2,h3⟩
    .exact .inl h
    .exact .inr ⟨h,e,lo,h1,⟨h2.wt,h2.seg.mono (jAf _) ht,h2.num,h2.len⟩,h3⟩
  .have hbd:fO d=true:=by simp[fO,hk0,hk1]
   refine⟨by omega,fun j hj=>by rw[he,jAa (by omega)];exact c1 j (by omega),fun j hj d' hd'=>?_⟩;rw[he];by_cases e:j=i
   .subst e;rw[<-hd0]at hd';cases hd';exact .inr ⟨hbd,_,_,jAm hlt,hg,t⟩
   .rw[jAa (Ne.symm e)];rcases c2 j (by omega) d' hd' with h|⟨h,e,lo,h1,h2,h3⟩
    .exact .inl h
    .exact .inr ⟨h,e,lo,h1,⟨h2.wt,h2.seg.mono (jAf _) ht,h2.num,h2.len⟩,h3⟩
theorem zVs(l:wB)(hl:∀x∈l,w64 x=x):∃P:Prg,PrgOk l P/\mv 37 [.sl l.length (yH l)] [] (.agg (zP P)) []:=by
 obtain⟨hnm,hnm2⟩:=zSH l hl;generalize hN:nmV l=nm at *
 have m1:1<=(nm:Int):=by omega
 have m2:(nm:Int)<=2:=by omega
 generalize hps:qJ l nm=ps;have h8:=(cF l nm).2;have h6:=fM l nm m1 m2 hl;rw[hps]at h8 h6;have hnr:=mZ (mods:=nm) (ps:=ps) (by omega) (fun p hp=>(h6 p hp).t6) ps.length;generalize hM:zD7 nm ps=M;obtain⟨m0,hm0⟩:∃m0:Mk,m0={mods:=M,defs:=pB nm ps,l:=l,at_:=24,temp:=0,left:=0,own:=0,home:=Id.zero,name:=0}:=⟨_,rfl⟩;have hi0:BInv l nm 0 m0:=by rw[hm0];exact⟨by rw[hsV,hps];rfl,by rw[hps,hM],rfl,by simp,by simp,by simp,by simp⟩
 obtain⟨ms,b0,b1,b2⟩:=zO6 m1 m2 hl m0 hi0;rw[hps]at b1 b2;have hds0:(ms 0).defs=pB nm ps:=by rw[b0,hm0]
 have ht0:(ms 0).temp=0:=by rw[b0,hm0]
 have hlen:∀i≤ps.length,(ms i).defs.length=ps.length:=fun i hi=>by
  have:=congrArg List.length (b1 i hi).heads
  simpa[hps]using this
 have hslots:∀i≤ps.length,∀d∈(ms i).defs,d.slots.length<=6:=fun i hi d hd=>by obtain⟨j,hj,rfl⟩:=jAn hd;have:=zC4 m1 m2 hl (i:=j) (d:=(ms i).defs[j]) (by rw[<-(b1 i hi).heads,jC0,jA1 hj];rfl) 0;have h6:=this.2.2.1;rw[zBw]at h6;exact h6
 obtain⟨c0,_,c2⟩:=zWW (fun i hi=>(b2 i hi).2) ps.length (jA _);rw[ht0]at c0 c2;have htn:=(b1 ps.length (jA _)).temp1;obtain⟨N,hNn⟩:∃N:Nat,(ms ps.length).temp=N:=⟨(ms ps.length).temp.toNat,by omega⟩;have hhd:=(b1 ps.length (jA _)).heads;have hbody:∀(k:Nat) (d:Dfn),(ms ps.length).defs[k]?=some d->(fO d=false/\d.body=Exp.zero)\/(fO d=true/\WT (hsV l nm) k (fE d) d.body d.res/\(tmps d.body).Nodup/\d.body.num0/\(tmps d.body).length<=32768/\∀c∈tmps d.body,0<=c/\c<N):=fun k d hd=>by
  have hk:=(jA4.1 hd).1;rw[hlen _ (jA _)]at hk;have hd0:(ms 0).defs[k]?=some (zJz nm (cL nm ps k) k ps[k]):=by rw[hds0,jA1 (by simpa using hk),zC0 nm ps hk]
  rcases c2 k hk _ hd0 with ⟨h1,h2⟩|⟨h1,e,lo,h2,h3,h4⟩
  .rw[h2]at hd;cases hd;exact .inl ⟨h1,rfl⟩
  .rw[h2]at hd;cases hd;refine .inr ⟨h1,h3.wt,h3.seg.nd,h3.num,h3.len,fun c hc=>?_⟩;have:=h3.seg.rng c hc;omega
 have hunder:∀d∈(ms ps.length).defs,fO d=true->d.body.under N/\(∀c∈tmps d.body,0<=c/\c<N)/\(tmps d.body).length<=1000000:=fun d hd hbd=>by
  obtain⟨k,hk,rfl⟩:=jAn hd;have hg:(ms ps.length).defs[k]?=some (ms ps.length).defs[k]:=jA1 hk;rcases hbody k _ hg with ⟨h,_⟩|⟨_,h1,h2,h3,h4,h5⟩
  .rw[hbd]at h;cases h
  .refine⟨zTB h1 (fun b hb h0=>?_) h5 (by omega),h5,by omega⟩;have:=(zC4 m1 m2 hl (i:=k) (d:=(ms ps.length).defs[k]) (by rw[<-hhd,jC0,hg];rfl) 0).1.new b hb h0;exfalso;have hn:=(zC4 m1 m2 hl (i:=k) (d:=(ms ps.length).defs[k]) (by rw[<-hhd,jC0,hg];rfl) (b.id.c-0)).1.new b hb h0;omega
 obtain⟨s,hs⟩:∃s:NSt,s=⟨(ms ps.length).defs,xI N,cL nm ps ps.length⟩:=⟨_,rfl⟩;have hsd:s.ds=(ms ps.length).defs:=by rw[hs]
 have hsi:s.ids.length=N:=by rw[hs];simp[xI]
 have hsn:s.next=cL nm ps ps.length:=by rw[hs]
 refine⟨⟨M,(fA s ps.length).ds⟩,⟨by rw[hN,hps,hM],?_,fun k=>(fA s k).next,?_,fun k d hd=>?_⟩,?_⟩
 .rw[hN,zFk,hsd,hhd]
 .rw[hN,hps];exact hsn
 .rw[hN];have hk:=(jA4.1 hd).1;have hl1:=(vT s ps.length).1;rw[hsd,hlen _ (jA _)]at hl1;simp only at hk hd;rw[hl1]at hk;rw[zHq s ps.length hk]at hd;have hg:s.ds[k]?=some ((ms ps.length).defs[k]'(by rw[hlen _ (jA _)];exact hk)):=by rw[hsd];exact jA1 _
  have hst:=zCJ s hg;have hcur:(fA s k).ds[k]?=s.ds[k]?:=tM s k k (jA _);rw[hg]at hcur;have hil:=(vT s k).2;rw[hsi]at hil;have hb:=hbody k _ (jA1 (by rw[hlen _ (jA _)];exact hk));generalize (ms ps.length).defs[k]'(by rw[hlen _ (jA _)];exact hk)=d' at *
  dsimp only
  rw[hst]at hd ⊢;rcases hb with ⟨h1,h2⟩|⟨h1,h2,h3,h4,h5,h6⟩
  .rw[if_neg (by simp[h1])]at hd ⊢;rw[hcur]at hd;cases hd;exact .inl ⟨h1,h2,rfl⟩
  .rw[if_pos h1]at hd ⊢;simp only at hd ⊢;rw[jAm (jA4.1 hcur).1]at hd;cases hd;refine .inr ⟨h1,d'.body,_,⟨rfl,h2,h3,h4,h5,fun j hj=>?_⟩,rfl⟩;exact zLa _ _ _ h3 (fun x hx=>by rw[hil];exact h6 x hx) j hj
 .have hp6:∀p∈ps,p.types.length<=6:=fun p hp=>(h6 p hp).t6
  have hD:=qHx (ms ps.length) M (cL nm ps ps.length) N hNn (by omega) (by omega) (by omega) (by rw[hlen _ (jA _)];omega) hunder;rw[<-hs,hlen _ (jA _)]at hD;have hC:=qHw l M ps.length (by omega) (cL nm ps ps.length) m0 (by rw[hm0]) ms b0 hlen hslots (fun i hi=>(b2 i hi).1) ⟨M,(fA s ps.length).ds⟩ (by rw[hlen _ (jA _)];exact hD);have hm0d:m0.defs=pB nm ps:=by rw[hm0]
  rw[hm0d]at hC;have hB:=qHv l hl nm hnm2 ps hps.symm ⟨M,(fA s ps.length).ds⟩ (by rw[hM];exact hC);have ha:=gA l 0 2 (by omega);have wn:IntKind.i64.wrap (1+atV l 0 2)=nm:=by rw[<-hnm];exact IntWalk.i64_in _ (by omega)
  refine zN func37 rfl qLp (rs:=[.cell 2 2 true]) (by kernel_rfl) ?_;unfold qDl;simp;refine mq ha (by simp) ?_;simp[wn];refine qK (S:=Nat) (fun i=>[(0,.sl l.length (yH l)),(2,.ptr 0 0),(3,int nm),(4,.ptr 1 0),(5,int i)])
   (fun i=>[.box [.nil,.nil],.box [.row 2 i,.row 3 0],.row false 112 6 i (MC i),.row false 41 31 0 []]) (fun i=>i<=nm) (fun i=>nm-i) 0 (by simp)
   (((y7 (l:=1) (o:=0) rfl rfl 112 6).trans (y7 (l:=1) (o:=1) rfl rfl 41 31)).trans (mu [0,1,2,3] 0 (by rfl) (by simp[MC]))) ?_
  intro i hi;by_cases h:i<nm
  .have hi2:i=0\/i=1:=by omega
   have k0:=uH 0;have k1:=uH i;rcases hi2 with rfl|rfl
   .have k1':mv 83 [int 0] [] (.agg (zK (idR 0))) []:=k0;simp[h,MC];refine yX k1' (by simp) (by simp) ?_;simp[h,zK];refine⟨by simp[maxLen],?_⟩;exact zO 1 h (by omega) (mu [0,1,2,3] 0 (by rfl) (by simp[MC,m0C,show IntKind.i64.wrap 1=1 by decide]))
   .have hn2:nm=2:=by omega
    subst hn2;have k1':mv 83 [int 1] [] (.agg (zK (idR 1))) []:=uH 1;simp[MC];refine yX k1' (by simp) (by simp) ?_;simp[zK];refine mq k0 (by simp) ?_;simp[zK];refine⟨by simp[maxLen],?_⟩;exact zO 2 (by omega) (by omega) (mu [0,1,2,3] 0 (by rfl) (by simp[MC,m0C,m1C,zK,show IntKind.i64.wrap 2=2 by decide]))
  .have hie:i=nm:=by omega
   subst hie;simp;exact⟨_,_,m_ [0,1,2,3] 0 (by rfl) (by rcases hnm2 with rfl|rfl<;>simp[MC,m0C,m1C,zK]) (by simp),hB⟩
inductive TyV(p:Prg):Typ->Val->Prop
 |int (n:Int) (h1 : -1099511627776<=n) (h2:n<=1099511627776):TyV p jO (.mk 0 n [])
 |bool (n:Int) (h:n=0\/n=1):TyV p jX (.mk 1 n [])
 |list (t:Typ) (vs:List Val) (h:∀v∈vs,TyV p t v):TyV p (yC t) (.mk 4 0 vs)
 |record (id:Id) (d:Dfn) (vs:List Val) (hd:jK p.defs id=some d) (hk:d.kind=0) (hl:vs.length=d.slots.length) (h:∀(j:Nat) (hj:j<vs.length),TyV p (d.slots[j]'(hl▸hj)).typ vs[j]):TyV p (yI id) (.mk 2 0 vs)
 |case (id:Id) (d:Dfn) (n:Nat) (v:Val) (hd:jK p.defs id=some d) (hk:d.kind=1) (hn:n<d.slots.length) (h:TyV p d.slots[n].typ v):TyV p (yI id) (.mk 3 n [v])
variable{p:Prg}{v:Val}
theorem TyV.int_inv(h:TyV p jO v):∃n:Int,v=.mk 0 n []/\-1099511627776<=n/\n<=1099511627776:=by
 generalize ht:jO=t at h;cases h with
 |int n h1 h2=>exact⟨n,rfl,h1,h2⟩
 |_=>simp at ht
theorem TyV.bool_inv(h:TyV p jX v):∃n:Int,v=.mk 1 n []/\(n=0\/n=1):=by
 generalize ht:jX=t at h;cases h with
 |bool n h=>exact⟨n,rfl,h⟩
 |_=>simp at ht
theorem TyV.list_inv{u:Typ}(h:TyV p (yC u) v):∃vs:wI,v=.mk 4 0 vs/\∀x∈vs,TyV p u x:=by
 generalize ht:yC u=t at h;cases h with
 |list t vs h =>
  simp only[Typ.mk.injEq,jBb,and_true,true_and]at ht;subst ht;exact⟨vs,rfl,h⟩
 |_=>simp at ht
theorem TyV.def_inv{r:Id}{d:Dfn}(hd:jK p.defs r=some d)(h:TyV p (yI r) v) :
 (d.kind=0/\∃(vs:wI) (hl:vs.length=d.slots.length),v=.mk 2 0 vs/\∀(j:Nat) (hj:j<vs.length),TyV p (d.slots[j]'(hl▸hj)).typ vs[j]) \/
 (d.kind=1/\∃(n:Nat) (x:Val) (hn:n<d.slots.length),v=.mk 3 n [x]/\TyV p d.slots[n].typ x):=by
 generalize ht:yI r=t at h;cases h with
 |record id d' vs hd' hk hl h =>
  simp only[Typ.mk.injEq,and_true,true_and]at ht;subst ht;rw[hd]at hd';cases hd';exact .inl ⟨hk,vs,hl,rfl,h⟩
 |case id d' n x hd' hk hn h =>
  simp only[Typ.mk.injEq,and_true,true_and]at ht;subst ht;rw[hd]at hd';cases hd';exact .inr ⟨hk,n,x,hn,rfl,h⟩
 |_=>simp at ht
inductive TyL(p:Prg):List Typ->List Val->Prop
 |nil:TyL p [] []
 |cons (t:Typ) (ts:List Typ) (v:Val) (vs:List Val) (h:TyV p t v) (hs:TyL p ts vs):TyL p (t::ts) (v::vs)
variable{ts:wS}{vs:wI}
theorem TyL.len(h:TyL p ts vs):vs.length=ts.length:=by
 induction h with
 |nil=>rfl
 |cons _ _ _ _ _ _ ih=>simp[ih]
theorem TyL.get(h:TyL p ts vs):∀(j:Nat) (hj:j<vs.length) (hj':j<ts.length),TyV p ts[j] vs[j]:=by
 induction h with
 |nil=>intro j hj;simp at hj
 |cons t ts v vs h hs ih =>
  intro j hj hj';cases j with
  |zero=>exact h
  |succ j=>exact ih j (by simpa using hj) (by simpa using hj')
theorem TyL.of{p:Prg}:∀{ts:wS} {vs:wI} (hl:vs.length=ts.length) (_:∀(j:Nat) (hj:j<vs.length),TyV p (ts[j]'(hl▸hj)) vs[j]),TyL p ts vs
 |[],[],_,_=>.nil
 |t::ts,v::vs,hl,h=>.cons t ts v vs (h 0 (by simp)) (TyL.of (by simpa using hl) fun j hj=>h (j+1) (by simpa using hj))
 |[],v::vs,hl,_=>by simp at hl
 |t::ts,[],hl,_=>by simp at hl
inductive OpT:Int->List Typ->Typ->Prop
 |arith (n:Int) (h1:0<=n) (h2:n<=4):OpT n [jO,jO] jO
 |less:OpT 5 [jO,jO] jX
 |same (u:Typ):OpT 6 [u,u] jX
 |andor (n:Int) (h:n=7\/n=8):OpT n [jX,jX] jX
 |not:OpT 9 [jX] jX
 |join (t:Typ):OpT 10 [yC t,yC t] (yC t)
 |len (t:Typ):OpT 11 [yC t] jO
theorem TyL.one(h:TyL p [t] vs):∃a,vs=[a]/\TyV p t a:=by
 cases h with
 |cons _ _ v vs h hs=>cases hs;exact⟨v,rfl,h⟩
theorem TyL.two{u:Typ}(h:TyL p [t,u] vs):∃a b,vs=[a,b]/\TyV p t a/\TyV p u b:=by
 cases h with
 |cons _ _ v vs h hs =>
  obtain⟨b,rfl,hb⟩:=hs.one;exact⟨v,b,rfl,h,hb⟩
theorem zCc(b:Bool):TyV p jX (eI b):=.bool _ (by cases b<;>simp)
theorem pA(n:Int) : -1099511627776<=bH n/\bH n<=1099511627776:=by
 unfold bH;split
 .omega
 .split<;>omega
variable{a b:Int}
theorem zIM(h1 : -1099511627776<=a)(h2:a<=1099511627776) : -1099511627776<=a.tdiv b/\a.tdiv b<=1099511627776:=by have h:=Int.natAbs_tdiv_le_natAbs a b;omega
theorem zQk(h1 : -1099511627776<=a)(h2:a<=1099511627776)(hm:a.tmod b≠0)(hb:b≠0) : -1099511627775<=a.tdiv b:=by
 have hn:a.natAbs / b.natAbs=(a.tdiv b).natAbs:=by rw[Int.natAbs_tdiv];rfl
 have hb2:2<=b.natAbs:=by
  rcases jAx b.natAbs 2 with h|h
  .exfalso;have:b=1\/b = -1:=by omega
   rcases this with rfl|rfl
   .simp at hm
   .exact hm (by rw[Int.tmod_neg,Int.tmod_one])
  .exact h
 have:a.natAbs / b.natAbs<=a.natAbs / 2:=Nat.div_le_div_left hb2 (by omega);omega
theorem zLR(b:Int)(h1 : -1099511627776<=a)(h2:a<=1099511627776) : -1099511627776<=rK a b/\rK a b<=1099511627776:=by
 unfold rK;have h:=zIM (b:=b) h1 h2;split
 .omega
 .rename_i hb;split
  .rename_i hc;have:=zQk h1 h2 hc.1 hb;omega
  .omega
theorem zVw(a b:Int):zDR a b=if b=0 then 0 else if a.tmod b≠0/\¬(a<0↔b<0)then a.tmod b+b else a.tmod b:=by
 unfold zDR rK;by_cases hb:b=0
 .simp[hb]
 .rw[if_neg hb,if_neg hb,if_neg hb];have:=Int.mul_tdiv_add_tmod a b;split
  .rw[Int.mul_sub];omega
  .omega
theorem zAS(h1 : -1099511627776<=b)(h2:b<=1099511627776) : -1099511627776<=zDR a b/\zDR a b<=1099511627776:=by
 rw[zVw];by_cases hb:b=0
 .simp[hb]
 .rw[if_neg hb];have h3:(a.tmod b).natAbs<b.natAbs:=by rw[Int.natAbs_tmod];exact Nat.mod_lt _ (by omega)
  have h4:0<=a->0<=a.tmod b:=Int.tmod_nonneg b;have h5:a<0->a.tmod b<=0:=fun h=>by have:=Int.tmod_nonneg (a:=-a) b (by omega);rw[Int.neg_tmod]at this;omega
  split<;>omega
theorem zME{n a b:Int}(a1 : -1099511627776<=a)(a2:a<=1099511627776)(b1 : -1099511627776<=b)(b2:b<=1099511627776) : -1099511627776<=uN n a b/\uN n a b<=1099511627776:=by
 unfold uN;split
 .exact pA _
 .split
  .exact pA _
  .split
   .exact pA _
   .split
    .exact zLR b a1 a2
    .exact zAS b1 b2
theorem iS:∀(l:wI),l.length<=j5 l
 |[]=>by simp[j5]
 | .mk _ _ l'::l=>by have:=iS l;simp only[jAb,j5,qN];omega
theorem zKn(h:qN v<=256):v.kids.length<=255:=by
 cases v with
 |mk k n l =>
  have:=iS l;simp only[qN]at h;simp only[Val.kids];omega
theorem qHk{n:Int}(h:OpT n ts t)(hv:TyL p ts vs)(hs:∀v∈vs,qN v<=256):TyV p t (opV n vs)/\qN (opV n vs)<=1000:=by
 cases h with
 |arith n h1 h2 =>
  obtain⟨a,b,rfl,ha,hb⟩:=hv.two;obtain⟨x,rfl,x1,x2⟩:=ha.int_inv;obtain⟨y,rfl,y1,y2⟩:=hb.int_inv;simp only[opV,if_pos h2];have:=zME (n:=n) x1 x2 y1 y2;exact⟨.int _ this.1 this.2,by simp[qN,j5]⟩
 |less =>
  obtain⟨a,b,rfl,ha,hb⟩:=hv.two;exact⟨zCc _,by simp[opV,eI,qN,j5]⟩
 |same u =>
  obtain⟨a,b,rfl,ha,hb⟩:=hv.two;exact⟨zCc _,by simp[opV,eI,qN,j5]⟩
 |andor n h =>
  obtain⟨a,b,rfl,ha,hb⟩:=hv.two;rcases h with rfl|rfl<;>exact⟨zCc _,by simp[opV,eI,qN,j5]⟩
 |not =>
  obtain⟨a,rfl,ha⟩:=hv.one;exact⟨zCc _,by simp[opV,eI,qN,j5]⟩
 |join t =>
  obtain⟨a,b,rfl,ha,hb⟩:=hv.two;obtain⟨x,rfl,hx⟩:=ha.list_inv;obtain⟨y,rfl,hy⟩:=hb.list_inv;refine⟨.list _ _ fun v hv=>?_,?_⟩
  .rcases jAc.1 hv with h|h
   .exact hx v h
   .exact hy v h
  .have h1:=hs (.mk 4 0 x) (by simp);have h2:=hs (.mk 4 0 y) (by simp);simp only[qN]at h1 h2;simp[opV,Val.kids,qN,iK];omega
 |len t =>
  obtain⟨a,rfl,ha⟩:=hv.one;have:=zKn (hs a (by simp));exact⟨.int _ (by omega) (by omega),by simp[opV,qN,j5]⟩
inductive WE(p:Prg):List Bnd->Exp->Typ->Prop
 |int (env i n r u ns) (h1 : -1099511627776<=n) (h2:n<=1099511627776):WE p env (.mk i 0 n r u [] ns) jO
 |bool (env i n r u ns) (h:n=0\/n=1):WE p env (.mk i 1 n r u [] ns) jX
 |var (env i n r u ns t) (h:fX env r n=some t):WE p env (.mk i 2 n r u [] ns) t
 |call (env i n r u ks ns) (hn:ks.length<=32768) (d:Dfn) (hd:jK p.defs r=some d) (hk:d.kind=2) (hl:ks.length=(d.slots.map Slt.typ).length) (hw:∀(j:Nat) (hj:j<ks.length),WE p env ks[j] ((d.slots.map Slt.typ)[j]'(hl▸hj))) :
  WE p env (.mk i 3 n r u ks ns) d.res
 |op (env i n r u ks ns) (hn:ks.length<=32768) (ts:List Typ) (t:Typ) (ho:OpT n ts t) (hl:ks.length=ts.length) (hw:∀(j:Nat) (hj:j<ks.length),WE p env ks[j] (ts[j]'(hl▸hj))):WE p env (.mk i 4 n r u ks ns) t
 |ite (env i n r u a b c ns t) (ha:WE p env a jX) (hb:WE p env b t) (hc:WE p env c t):WE p env (.mk i 5 n r u [a,b,c] ns) t
 |lets (env i n r u a b ns v t) (hf:∀x∈env,x.id≠i) (ha:WE p env a v) (hb:WE p (env++[⟨i,0,v⟩]) b t):WE p env (.mk i 6 n r u [a,b] ns) t
 |record (env i n r u ks ns) (hn:ks.length<=32768) (d:Dfn) (hd:jK p.defs r=some d) (hk:d.kind=0) (hl:ks.length=(d.slots.map Slt.typ).length) (hw:∀(j:Nat) (hj:j<ks.length),WE p env ks[j] ((d.slots.map Slt.typ)[j]'(hl▸hj))) :
  WE p env (.mk i 7 n r u ks ns) (yI r)
 |field (env i r u a ns) (d:Dfn) (j:Nat) (hd:jK p.defs r=some d) (hk:d.kind=0) (hj:j<d.slots.length) (ha:WE p env a (yI r)):WE p env (.mk i 8 j r u [a] ns) d.slots[j].typ
 |case (env i r u a ns) (d:Dfn) (j:Nat) (hd:jK p.defs r=some d) (hk:d.kind=1) (hj:j<d.slots.length) (ha:WE p env a d.slots[j].typ):WE p env (.mk i 9 j r u [a] ns) (yI r)
 |mtch (env i n r u a ks ns) (d:Dfn) (t:Typ) (hf:∀x∈env,x.id≠i) (hd:jK p.defs r=some d) (hk:d.kind=1) (hl:ks.length=d.slots.length) (ha:WE p env a (yI r))
  (hw:∀(j:Nat) (hj:j<ks.length),WE p (env++[⟨i,j,(d.slots[j]'(hl▸hj)).typ⟩]) ks[j] t):WE p env (.mk i 10 n r u (a::ks) ns) t
 |list (env i n r u ks ns t) (hn:ks.length<=32768) (hw:∀(j:Nat) (hj:j<ks.length),WE p env ks[j] t):WE p env (.mk i 11 n r u ks ns) (yC t)
 |fold (env i n r u l s b ns v t) (hf:∀x∈env,x.id≠i) (hl:WE p env l (yC v)) (hs:WE p env s t) (hb:WE p (env++[⟨i,0,v⟩]++[⟨i,1,t⟩]) b t):WE p env (.mk i 12 n r u [l,s,b] ns) t
theorem tI(B:wJ)(b:Bnd)(x:Id)(n:Int):fX (B++[b]) x n=if b.id=x/\b.n=n then some b.typ else fX B x n:=by
 unfold fX;rw[List.reverse_append,List.reverse_singleton,jCw,jD6];by_cases h1:b.id=x
 .by_cases h2:b.n=n<;>simp[h1,h2]
 .simp[h1]
inductive EnvT(p:Prg):List Bnd->List EVar->Prop
 |nil:EnvT p [] []
 |snoc (B:List Bnd) (V:List EVar) (b:Bnd) (v:EVar) (h:EnvT p B V) (hi:v.id=b.id) (hn:v.n=b.n) (ht:TyV p b.typ v.v) (hz:qN v.v<=256):EnvT p (B++[b]) (V++[v])
variable{B:wJ}{V:wO}
theorem EnvT.find(h:EnvT p B V){x:Id}{n:Int}:fX B x n=some t->TyV p t (lX V x n)/\qN (lX V x n)<=256:=by
 induction h with
 |nil=>intro h;simp[fX]at h
 |snoc B V b v h hi hn ht hz ih =>
  rw[tI,zAE,hi,hn];split
  .intro e;cases e;exact⟨ht,hz⟩
  .exact ih
theorem EnvT.push(h:EnvT p B V){i:Id}{n:Int}(ht:TyV p t v/\qN v<=256):EnvT p (B++[⟨i,n,t⟩]) (V++[⟨i,n,v⟩]):=.snoc _ _ _ _ h rfl rfl ht.1 ht.2
theorem EnvT.len(h:EnvT p B V):V.length=B.length:=by
 induction h with
 |nil=>rfl
 |snoc _ _ _ _ _ _ _ _ _ ih=>simp[ih]
theorem EnvT.ids(h:EnvT p B V){i:Id}:(∀b∈B,b.id≠i)->∀v∈V,v.id≠i:=by
 induction h with
 |nil=>simp
 |snoc B V b v h hi hn ht hz ih =>
  intro hb x hx;rcases jAc.1 hx with hx|hx
  .exact ih (fun y hy=>hb y (jBk _ hy)) x hx
  .rw[jAp.1 hx,hi];exact hb b (by simp)
theorem EnvT.args:∀{ss:List Slt} {vs:wI},TyL p (ss.map Slt.typ) vs->(∀v∈vs,qN v<=256)->EnvT p (ss.map fun s=>⟨s.id,0,s.typ⟩) (cN ss vs):=by
 intro ss;induction ss using nQ with
 |nil =>
  intro vs h _;cases h;exact .nil
 |snoc ss s ih =>
  intro vs h hz;have hl:=h.len;simp only[jAe,jA5,jAz]at hl;obtain⟨ws,w,rfl⟩:∃ws w,vs=ws++[w]:=⟨vs.dropLast,vs.getLast (fun e=>by rw[e]at hl;simp at hl),(List.dropLast_concat_getLast _).symm⟩;simp only[jA5,jAz]at hl;have h1:TyL p (ss.map Slt.typ) ws:=TyL.of (by simp;omega) fun j hj=>by have:=h.get j (by simp;omega) (by simp;omega);rw[jBl hj]at this;rw[jAw]at this ⊢;rw[jBl (by omega)]at this;exact this
  have h2:TyV p s.typ w:=by
   have:=h.get ss.length (by simp;omega) (by simp);rw[jC2 (by omega)]at this
   simpa[show ss.length-ws.length=0 by omega]using this
  have e:cN (ss++[s]) (ws++[w])=cN ss ws++[⟨s.id,0,w⟩]:=by unfold cN;rw[List.zipWith_append (by omega)];rfl
  rw[e,jBs];exact(ih h1 fun v hv=>hz v (jBk _ hv)).push ⟨h2,hz w (by simp)⟩
def zLq(p:Prg):Prop:=∀(r:Id) (d:Dfn),jK p.defs r=some d->fO d=true->WE p (fE d) d.body d.res
section
variable{p:Prg}{ev:Evl}
def pR(ev:Evl):Prop:=∀e V s,s.fail≠0->ev e V s=(vz,s)
def Snd(p:Prg)(ev:Evl):Prop:=∀e B V s t,WE p B e t->EnvT p B V->(ev e V s).2.fail=0->TyV p t (ev e V s).1/\qN (ev e V s).1<=256
theorem xK(h:pR ev)(V:wO):∀(l:wG) (s:XS),s.fail≠0->(jJ ev V l s).2=s
 |[],s,_=>rfl
 |e::l,s,hs=>by simp only[jJ,h e V s hs];exact xK h V l s hs
variable{s:XS}
theorem zN3(h:pR ev){V:wO}{e:Exp}{l:wG}(hs:(jJ ev V (e::l) s).2.fail=0):(ev e V s).2.fail=0:=by
 by_cases hf:(ev e V s).2.fail=0
 .exact hf
 .simp only[jJ]at hs;rw[xK h V l _ hf]at hs;exact hs
theorem oI(h:pR ev)(V:wO)(i:Id)(b:Exp):∀(l:wI) (r:Val×XS),r.2.fail≠0->(yB ev V i b l r).2=r.2
 |[],r,_=>rfl
 |x::l,r,hs=>by simp only[yB,h _ _ _ hs];exact oI h V i b l _ hs
theorem nK(h:pR ev)(k:Snd p ev){B:wJ}{V:wO}(hV:EnvT p B V):∀(l:wG) (ts:wS) (s:XS) (hl:l.length=ts.length),(∀(j:Nat) (hj:j<l.length),WE p B l[j] (ts[j]'(hl▸hj))) ->
 (jJ ev V l s).2.fail=0->TyL p ts (jJ ev V l s).1/\∀v∈(jJ ev V l s).1,qN v<=256
 |[],[],s,_,_,_=>⟨.nil,by simp[jJ]⟩
 |[],t::ts,s,hl,_,_=>by simp at hl
 |e::l,[],s,hl,_,_=>by simp at hl
 |e::l,t::ts,s,hl,hw,hs=>by
  have h1:=k e B V s t (hw 0 (by simp)) hV (zN3 h hs);have h2:=nK h k hV l ts (ev e V s).2 (by simpa using hl) (fun j hj=>hw (j+1) (by simpa using hj)) (by simpa only[jJ]using hs);simp only[jJ];refine⟨.cons _ _ _ _ h1.1 h2.1,fun v hv=>?_⟩;rcases jA3.1 hv with rfl|hv
  .exact h1.2
  .exact h2.2 v hv
theorem zB8(h:pR ev)(k:Snd p ev){B:wJ}{V:wO}(hV:EnvT p B V){i:Id}{b:Exp}{u t:Typ}(hb:WE p (B++[⟨i,0,u⟩]++[⟨i,1,t⟩]) b t):∀(l:wI) (r:Val×XS),(∀x∈l,TyV p u x/\qN x<=256) ->
 (r.2.fail=0->TyV p t r.1/\qN r.1<=256)->(yB ev V i b l r).2.fail=0->TyV p t (yB ev V i b l r).1/\qN (yB ev V i b l r).1<=256
 |[],r,_,hr,hs=>hr hs
 |x::l,r,hl,hr,hs=>by
  simp only[yB]at hs ⊢;have h0:r.2.fail=0:=by
   by_cases hf:r.2.fail=0
   .exact hf
   .have e:=oI h V i b l (vz,r.2) hf;rw[h _ _ _ hf,e]at hs;exact hs
  exact zB8 h k hV hb l _ (fun y hy=>hl y (jAh _ hy)) (fun hf=>k b _ _ _ t hb ((hV.push (hl x (by simp))).push (hr h0)) hf) hs
variable{v:Val}
theorem sG{c:Bool}(h:s.fail=0):zf c s v=v:=by simp[zf,h]
theorem zTr(h:qN v<=10000000)(hb:¬zDL v):qN v<=256:=by have h1:=zDa v (by omega);unfold zDL at hb;omega
theorem lM{x:Val}(h:qN v<=256)(hx:x∈v.kids):qN x<=256:=by have:=aW hx;omega
theorem zLc{l:wI}(h:∀v∈l,qN v<=256)(hl:l.length<=32768):j5 l<=8388608:=by have:=zQd h;have:l.length*256<=32768*256:=jBn _ hl;omega
theorem up{t:Typ}(h:TyV p t v/\qN v<=256):TyV p t v/\qN v<=10000000:=⟨h.1,by omega⟩
theorem zTD(hp:zLq p)(fl:Nat)(h:pR ev)(k:Snd p ev){e:Exp}{B:wJ}{V:wO}{t:Typ}(he:WE p B e t)(hV:EnvT p B V)(hs:(qP p fl ev e V s).2.fail=0):TyV p t (qP p fl ev e V s).1/\qN (qP p fl ev e V s).1<=10000000:=by
 cases he with
 |int _ i n r u ns h1 h2=>exact⟨.int n h1 h2,by simp[qP,qN,j5]⟩
 |bool _ i n r u ns h=>exact⟨.bool n h,by simp[qP,qN,j5]⟩
 |var _ i n r u ns _ h =>
  have:=hV.find h;exact⟨this.1,by simp only[qP];simp;omega⟩
 |call _ i n r u ks ns hn d hd hk hl hw =>
  have e:qP p fl ev (.mk i 3 n r u ks ns) V s=b7 ev d (jJ ev V ks s).1 (jJ ev V ks s).2:=by simp[qP,dfn,hd]
  rw[e]at hs ⊢;unfold b7 at hs ⊢;by_cases hf:(jJ ev V ks s).2.fail=0
  .rw[if_neg (by simp[hf])]at hs ⊢;have ha:=nK h k hV ks _ s hl hw hf;exact up (k _ _ _ _ _ (hp r d hd (by simp[fO,hk])) (EnvT.args ha.1 ha.2) hs)
  .rw[if_pos hf]at hs;exact(hf hs).elim
 |op _ i n r u ks ns hn ts _ ho hl hw =>
  have e:qP p fl ev (.mk i 4 n r u ks ns) V s=(zf true (jJ ev V ks s).2 (opV n (jJ ev V ks s).1),(jJ ev V ks s).2):=by simp[qP]
  rw[e]at hs ⊢;have ha:=nK h k hV ks _ s hl hw hs;rw[sG hs];have:=qHk ho ha.1 ha.2;exact⟨this.1,by simp only;omega⟩
 |record _ i n r u ks ns hn d hd hk hl hw =>
  have e:qP p fl ev (.mk i 7 n r u ks ns) V s=(zf (fl==1) (jJ ev V ks s).2 (.mk 2 0 (jJ ev V ks s).1),(jJ ev V ks s).2):=by simp[qP]
  rw[e]at hs ⊢;obtain⟨ha,hz⟩:=nK h k hV ks _ s hl hw hs;rw[sG hs];have hlen:=ha.len;rw[jAe]at hlen;refine⟨.record _ d _ hd hk hlen fun j hj=>?_,by have:=zLc hz (by rw[fZ];exact hn);simp only[qN];omega⟩;have:=ha.get j hj (by rw[jAe];omega)
  rwa[jAw]at this
 |case _ i r u a ns d j hd hk hj ha =>
  have e:qP p fl ev (.mk i 9 j r u [a] ns) V s=(zf (fl==1) (ev a V s).2 (.mk 3 j [(ev a V s).1]),(ev a V s).2):=by simp[qP,jJ]
  rw[e]at hs ⊢;rw[sG hs];have:=k a B V s _ ha hV hs;exact⟨.case _ d j _ hd hk hj this.1,by simp only[qN,j5];omega⟩
 |list _ i n r u ks ns t hn hw =>
  have e:qP p fl ev (.mk i 11 n r u ks ns) V s=(zf (fl==1) (jJ ev V ks s).2 (.mk 4 0 (jJ ev V ks s).1),(jJ ev V ks s).2):=by simp[qP]
  rw[e]at hs ⊢;obtain⟨ha,hz⟩:=nK h k hV ks (List.replicate ks.length t) s (by simp) (fun j hj=>by rw[List.getElem_replicate];exact hw j hj) hs;rw[sG hs];refine⟨.list _ _ fun v hv=>?_,by have:=zLc hz (by rw[fZ];exact hn);simp only[qN];omega⟩;obtain⟨j,hj,rfl⟩:=jAn hv;have:=ha.get j hj (by rw[<-ha.len];exact hj)
  rwa[List.getElem_replicate]at this
 |ite _ i n r u a b c ns _ ha hb hc =>
  have e:qP p fl ev (.mk i 5 n r u [a,b,c] ns) V s=if (ev a V s).2.fail≠0 then (vz,(ev a V s).2)else ev ([a,b,c].getD (if (ev a V s).1.n=1 then 1 else 2) .zero) V (ev a V s).2:=by simp[qP,j6]
  rw[e]at hs ⊢;by_cases hf:(ev a V s).2.fail=0
  .rw[if_neg (by simp[hf])]at hs ⊢;by_cases hn:(ev a V s).1.n=1
   .simp only[if_pos hn]at hs ⊢;exact up (k b B V _ _ hb hV hs)
   .simp only[if_neg hn]at hs ⊢;exact up (k c B V _ _ hc hV hs)
  .rw[if_pos hf]at hs;exact(hf hs).elim
 |lets _ i n r u a b ns v _ hfr ha hb =>
  have e:qP p fl ev (.mk i 6 n r u [a,b] ns) V s=if (ev a V s).2.fail≠0 then (vz,(ev a V s).2)else ev b (V++[⟨i,0,(ev a V s).1⟩]) (ev a V s).2:=by simp[qP,j6]
  rw[e]at hs ⊢;by_cases hf:(ev a V s).2.fail=0
  .rw[if_neg (by simp[hf])]at hs ⊢;exact up (k b _ _ _ _ hb (hV.push (k a B V s _ ha hV hf)) hs)
  .rw[if_pos hf]at hs;exact(hf hs).elim
 |field _ i r u a ns d j hd hk hj ha =>
  have e:qP p fl ev (.mk i 8 j r u [a] ns) V s=if (ev a V s).2.fail≠0 then (vz,(ev a V s).2)else ((ev a V s).1.kids.getD j vz,(ev a V s).2):=by simp[qP,j6]
  rw[e]at hs ⊢;by_cases hf:(ev a V s).2.fail=0
  .rw[if_neg (by simp[hf])]at hs ⊢;obtain⟨hty,hz⟩:=k a B V s _ ha hV hf;rcases hty.def_inv hd with ⟨_,vs,hl,h1,h2⟩|⟨h1,_⟩
   .rw[h1]at hz ⊢;have hjl:j<vs.length:=by omega
    simp only[Val.kids,jB7,jA1 hjl,jB9];exact up ⟨h2 j hjl,lM hz (jA0 hjl)⟩
   .omega
  .rw[if_pos hf]at hs;exact(hf hs).elim
 |mtch _ i n r u a ks ns d _ hfr hd hk hl ha hw =>
  have e:qP p fl ev (.mk i 10 n r u (a::ks) ns) V s=if (ev a V s).2.fail≠0 then (vz,(ev a V s).2)else ev ((a::ks).getD (1+(ev a V s).1.n).toNat .zero) (V++[⟨i,(ev a V s).1.n,(ev a V s).1.kids.headD vz⟩]) (ev a V s).2:=by simp[qP,j6]
  rw[e]at hs ⊢;by_cases hf:(ev a V s).2.fail=0
  .rw[if_neg (by simp[hf])]at hs ⊢;obtain⟨hty,hz⟩:=k a B V s _ ha hV hf;rcases hty.def_inv hd with ⟨h1,_⟩|⟨_,m,x,hm,h1,h2⟩
   .omega
   .have hmk:m<ks.length:=by omega
    have e2:(1+(m:Int)).toNat=m+1:=by omega
    rw[h1]at hs hz ⊢;simp only[Val.n,Val.kids,jCy,e2,List.getD_cons_succ,jB7,jBo,jA1 hmk,jB9]at hs ⊢;exact up (k _ _ _ _ _ (hw m hmk) (hV.push ⟨h2,lM hz (by simp[Val.kids])⟩) hs)
  .rw[if_pos hf]at hs;exact(hf hs).elim
 |fold _ i n r u l s' b ns v _ hfr hl' hs' hb =>
  have e:qP p fl ev (.mk i 12 n r u [l,s',b] ns) V s=if (ev l V s).2.fail≠0 then (vz,(ev l V s).2)else yB ev V i b (ev l V s).1.kids (ev s' V (ev l V s).2):=by simp[qP,j6]
  rw[e]at hs ⊢;by_cases hf:(ev l V s).2.fail=0
  .rw[if_neg (by simp[hf])]at hs ⊢;obtain⟨hty,hz⟩:=k l B V s _ hl' hV hf;obtain⟨vs,h1,h2⟩:=hty.list_inv;rw[h1]at hs hz ⊢;exact up (zB8 h k hV hb vs _ (fun x hx=>⟨h2 x hx,lM hz hx⟩) (fun hg=>k s' B V _ _ hs' hV hg) hs)
  .rw[if_pos hf]at hs;exact(hf hs).elim
theorem iQ(p:Prg)(fl:Nat):∀m,pR (aT p fl m)
 | 0=>fun e V s h=>by rw[aT,if_pos h]
 |m+1=>fun e V s h=>by rw[aT,if_pos h]
theorem rX(hp:zLq p)(fl:Nat):∀m,Snd p (aT p fl m)
 | 0=>fun e B V s t he hV hs=>by
  rw[aT]at hs;split at hs
  .rename_i h;exact(h hs).elim
  .simp[uG]at hs
 |m+1=>fun e B V s t he hV hs=>by
  rw[aT]at hs ⊢;split at hs
  .rename_i h;exact(h hs).elim
  .split at hs
   .simp[uG]at hs
   .rename_i h1 h2;rw[if_neg h1,if_neg h2];simp only[vD]at hs ⊢;have hk:gY (qP p fl (aT p fl m) e V (nJ e s))=(qP p fl (aT p fl m) e V (nJ e s)).2/\(qP p fl (aT p fl m) e V (nJ e s)).2.fail=0/\¬zDL (qP p fl (aT p fl m) e V (nJ e s)).1:=by
     unfold gY at hs ⊢;split at hs
     .simp[nB]at hs
     .rename_i h3;rw[if_neg h3];exact⟨rfl,hs,fun hb=>h3 ⟨hs,hb⟩⟩
    rw[sG hs];have:=zTD hp fl (iQ p fl m) (rX hp fl m) he hV hk.2.1;exact⟨this.1,zTr this.2 hk.2.2⟩
end
structure Gm where
 at_:Int
 next:Int
def Gm.tick(m:Gm):Gm:=⟨m.at_+1,m.next⟩
def bJ(m:Gm)(k n:Int)(r:Id)(ks:wG):Exp×Gm:=(.mk (idR m.next) k n r .zero ks [],⟨m.at_,m.next+1⟩)
def zGp(m:Gm)(k:Nat)(d s:Id):Exp×Gm:=bJ (bJ m 2 0 s []).2 8 k d [(bJ m 2 0 s []).1]
def uL(n:Nat)(x:Int)(i:Nat):Nat:=(i+x.toNat) % n
def zAo(ss:List Slt)(t x:Int):wC :=
 if 4<x then ((List.range ss.length).find? fun i=>match ss[uL ss.length x i]? with|some s=>decide (s.typ.k=t)|none=>false).map (uL ss.length x)else none
theorem zEK{ss:List Slt}{t x:Int}{k:Nat}(h:zAo ss t x=some k):∃s,ss[k]?=some s/\s.typ.k=t:=by
 unfold zAo at h;split at h
 .rw[jAj]at h;obtain⟨i,h1,rfl⟩:=h;have h2:=jD8 h1;split at h2
  .exact⟨_,by assumption,by simpa using h2⟩
  .cases h2
 .cases h
section
variable(l:wB)
def gN(m:Gm)(n:Int):Int:=atV l m.at_ n
def vI(t:Int)(m:Gm):Exp×Gm:=if t=1 then bJ m.tick 1 (gN l m 2) Id.zero []else bJ m.tick 0 (gN l m 4-1) Id.zero []
def zPb(f:Gm->Exp×Gm)(m:Gm)(n:Int):Exp×Gm:=bJ (f (f m).2).2 4 n Id.zero [(f m).1,(f (f m).2).1]
def gIf(f g:Gm->Exp×Gm)(m:Gm):Exp×Gm:=bJ (g (g (f m).2).2).2 5 0 Id.zero [(f m).1,(g (f m).2).1,(g (g (f m).2).2).1]
def sY(d:Dfn)(s:Id)(t:Int)(m:Gm):Exp×Gm :=
 match zAo d.slots t (gN l m 12)with
 |some k=>zGp m.tick k d.id s
 |none=>vI l t m.tick
def cV(d:Dfn)(s:Id):Nat->Int->Gm->Exp×Gm
 | 0,t,m=>sY l d s t m
 |n+1,t,m =>
  match zAo d.slots t (gN l m 12)with
  |some k=>zGp m.tick k d.id s
  |none =>
   if gN l m 12<3/\t=0 then zPb (cV d s n t) m.tick (gN l m 12)
   else if gN l m 12<2 then zPb (cV d s n t) m.tick (7+gN l m 12)
   else if gN l m 12=3 then gIf (sY l d s 1) (cV d s n t) m.tick
   else vI l t m.tick
def zAa(to from_:Dfn)(s:Id)(i:Nat)(m:Gm):Exp×Gm :=
 match to.slots[i]?,from_.slots[i]? with
 |some u,some v=>if v.typ.k=u.typ.k then (if 0<gN l m 3 then zGp m.tick i from_.id s else cV l from_ s 2 u.typ.k m.tick)else cV l from_ s 2 u.typ.k m
 |some u,none=>cV l from_ s 2 u.typ.k m
 |none,_=>(.zero,m)
def gJ(to from_:Dfn)(s:Id):Nat->Gm->wG×Gm
 | 0,m=>([],m)
 |n+1,m=>((gJ to from_ s n m).1++[(zAa l to from_ s n (gJ to from_ s n m).2).1],(zAa l to from_ s n (gJ to from_ s n m).2).2)
def sZ(to from_:Dfn)(s:Id)(m:Gm):Exp×Gm:=bJ (gJ l to from_ s to.slots.length m).2 7 0 to.id (gJ l to from_ s to.slots.length m).1
theorem rQ(to from_:Dfn)(s:Id)(m:Gm):∀n,(gJ l to from_ s n m).1.length=n
 | 0=>rfl
 |n+1=>by simp[gJ,rQ to from_ s m n]
def tK(t:Int):Typ:=if t=1 then jX else jO
structure Flat(p:Prg)(d:Dfn):Prop where
 find:jK p.defs d.id=some d
 kind:d.kind=0
 flat:∀s∈d.slots,s.typ=jO\/s.typ=jX
 few:d.slots.length<=6
theorem Flat.typ{p:Prg}{d:Dfn}(h:Flat p d){s:Slt}(hs:s∈d.slots):s.typ=tK s.typ.k/\(s.typ.k=0\/s.typ.k=1):=by rcases h.flat s hs with e|e<;>rw[e]<;>simp[tK,Typ.k]
end
def zVJ(p:Prg)(t:Typ):Prop:=t=jO\/t=jX\/∃d,Flat p d/\t=yI d.id
inductive WF(p:Prg)(B:List Bnd):Exp->Typ->Prop
 |int (i n r u ns) (h1 : -1099511627776<=n) (h2:n<=1099511627776):WF p B (.mk i 0 n r u [] ns) jO
 |bool (i n r u ns) (h:n=0\/n=1):WF p B (.mk i 1 n r u [] ns) jX
 |var (i n r u ns t) (h:fX B r n=some t) (ht:zVJ p t):WF p B (.mk i 2 n r u [] ns) t
 |arith (i n r u a b ns) (h1:0<=n) (h2:n<=4) (ha:WF p B a jO) (hb:WF p B b jO):WF p B (.mk i 4 n r u [a,b] ns) jO
 |andor (i n r u a b ns) (h:n=7\/n=8) (ha:WF p B a jX) (hb:WF p B b jX):WF p B (.mk i 4 n r u [a,b] ns) jX
 |ite (i n r u a b c ns t) (ha:WF p B a jX) (hb:WF p B b t) (hc:WF p B c t):WF p B (.mk i 5 n r u [a,b,c] ns) t
 |record (i n r u ks ns) (hn:ks.length<=32768) (d:Dfn) (hd:Flat p d) (hr:d.id=r) (hl:ks.length=(d.slots.map Slt.typ).length) (hw:∀(j:Nat) (hj:j<ks.length),WF p B ks[j] ((d.slots.map Slt.typ)[j]'(hl▸hj))) :
  WF p B (.mk i 7 n r u ks ns) (yI r)
 |field (i r u a ns) (d:Dfn) (j:Nat) (hd:Flat p d) (hr:d.id=r) (hj:j<d.slots.length) (ha:WF p B a (yI r)):WF p B (.mk i 8 j r u [a] ns) d.slots[j].typ
theorem WF.flat(h:WF p B e t):zVJ p t:=by
 induction h with
 |int=>exact .inl rfl
 |bool=>exact .inr (.inl rfl)
 |var _ _ _ _ _ _ _ ht=>exact ht
 |arith=>exact .inl rfl
 |andor=>exact .inr (.inl rfl)
 |ite _ _ _ _ _ _ _ _ _ _ _ _ _ h _=>exact h
 |record _ _ _ _ _ _ _ d hd hr _ _ _=>exact .inr (.inr ⟨d,hd,by rw[hr]⟩)
 |field _ _ _ _ _ d j hd _ hj _ _ =>
  rcases hd.flat _ (jA0 hj)with e|e<;>rw[e]
  .exact .inl rfl
  .exact .inr (.inl rfl)
theorem WF.we(h:WF p B e t):WE p B e t:=by
 induction h with
 |int i n r u ns h1 h2=>exact .int _ _ _ _ _ _ h1 h2
 |bool i n r u ns h=>exact .bool _ _ _ _ _ _ h
 |var i n r u ns t h ht=>exact .var _ _ _ _ _ _ _ h
 |arith i n r u a b ns h1 h2 _ _ ha hb =>
  exact .op _ _ _ _ _ _ _ (by simp) [jO,jO] jO (.arith n h1 h2) rfl fun j hj=>by
   match j,hj with
   | 0,_=>exact ha
   | 1,_=>exact hb
 |andor i n r u a b ns h _ _ ha hb =>
  exact .op _ _ _ _ _ _ _ (by simp) [jX,jX] jX (.andor n h) rfl fun j hj=>by
   match j,hj with
   | 0,_=>exact ha
   | 1,_=>exact hb
 |ite _ _ _ _ _ _ _ _ _ _ _ _ ha hb hc=>exact .ite _ _ _ _ _ _ _ _ _ _ ha hb hc
 |record i n r u ks ns hn d hd hr hl _ ih=>subst hr;exact .record _ _ _ _ _ _ _ hn d hd.find hd.kind hl ih
 |field i r u a ns d j hd hr hj _ ih=>subst hr;exact .field _ _ _ _ _ _ d j hd.find hd.kind hj ih
theorem zJS{l:wB}(hl:∀x∈l,w64 x=x)(m:Gm){t:Int}(ht:t=0\/t=1)(B:wJ):WF p B (vI l t m).1 (tK t):=by
 have h4:=yJ hl (i:=m.at_) (most:=4) (by omega);have h2:=yJ hl (i:=m.at_) (most:=2) (by omega);rcases ht with rfl|rfl
 .exact .int _ _ _ _ _ (by unfold gN;omega) (by unfold gN;omega)
 .exact .bool _ _ _ _ _ (by unfold gN;omega)
theorem zNR{f:Gm->Exp×Gm}{t:Int}(ht:t=0\/t=1)(hf:∀m,WF p B (f m).1 (tK t)){n:Int}(hn:t=0/\0<=n/\n<=4\/t=1/\(n=7\/n=8))(m:Gm):WF p B (zPb f m n).1 (tK t):=by
 rcases hn with ⟨rfl,h⟩|⟨rfl,h⟩
 .exact .arith _ _ _ _ _ _ _ h.1 h.2 (hf _) (hf _)
 .exact .andor _ _ _ _ _ _ _ h (hf _) (hf _)
section
variable{l:wB}(hl:∀x∈l,w64 x=x){p:Prg}{d:Dfn}(hd:Flat p d)(s:Id)
include hd
theorem zIn(m:Gm){k:Nat}{u:Slt}(hk:d.slots[k]?=some u):WF p [⟨s,0,yI d.id⟩] (zGp m k d.id s).1 u.typ:=by obtain⟨hk',rfl⟩:=jA4.1 hk;exact .field _ _ _ _ _ d k hd rfl hk' (.var _ _ _ _ _ _ (by simp[fX]) (.inr (.inr ⟨d,hd,rfl⟩)))
include hl
theorem zGX(m:Gm){t:Int}(ht:t=0\/t=1):WF p [⟨s,0,yI d.id⟩] (sY l d s t m).1 (tK t):=by
 unfold sY;split
 .rename_i k hk;obtain⟨u,h1,h2⟩:=zEK hk;have h3:=zIn hd s m.tick h1;rw[(hd.typ (jC3 h1)).1,h2]at h3;exact h3
 .exact zJS hl _ ht _
theorem rR:∀(n:Nat) (m:Gm) {t:Int},t=0\/t=1->WF p [⟨s,0,yI d.id⟩] (cV l d s n t m).1 (tK t)
 | 0,m,_,ht=>zGX hl hd s m ht
 |n+1,m,t,ht=>by
  have h12:0<=gN l m 12/\gN l m 12<12:=yJ hl (by omega);unfold cV;split
  .rename_i k hk;obtain⟨u,h1,h2⟩:=zEK hk;have h3:=zIn hd s m.tick h1;rw[(hd.typ (jC3 h1)).1,h2]at h3;exact h3
  .split
   .rename_i h;exact zNR ht (fun m=>rR n m ht) (.inl ⟨h.2,h12.1,by omega⟩) _
   .split
    .rename_i h0 h;have ht1:t=1:=by rcases ht with rfl|rfl;exact(h0 ⟨by omega,rfl⟩).elim;rfl
     exact zNR ht (fun m=>rR n m ht) (.inr ⟨ht1,by omega⟩) _
    .split
     .exact .ite _ _ _ _ _ _ _ _ _ (zGX hl hd s _ (.inr rfl)) (rR n _ ht) (rR n _ ht)
     .exact zJS hl _ ht _
theorem zUC{to:Dfn}(hto:Flat p to){i:Nat}(hi:i<to.slots.length)(m:Gm):WF p [⟨s,0,yI d.id⟩] (zAa l to d s i m).1 to.slots[i].typ:=by
 have h1:=hto.typ (jA0 hi);have hp:=fun m=>rR hl hd s 2 m h1.2
 rw[<-h1.1]at hp;unfold zAa;rw[jA1 hi];cases hv:d.slots[i]? with
 |none=>exact hp _
 |some v =>
  simp only;split
  .rename_i e;split
   .have h3:=zIn hd s m.tick hv;have h4:=(hd.typ (jC3 hv)).1;rw[h4,e,<-h1.1]at h3;exact h3
   .exact hp _
  .exact hp _
theorem zJQ{to:Dfn}(hto:Flat p to)(m:Gm):∀(n:Nat),n<=to.slots.length->∀(j:Nat) (hj:j<(gJ l to d s n m).1.length) (hj':j<to.slots.length),WF p [⟨s,0,yI d.id⟩] (gJ l to d s n m).1[j] to.slots[j].typ
 | 0,_,j,hj,_=>by simp[gJ]at hj
 |n+1,hn,j,hj,hj'=>by
  have hlen:=rQ l to d s m n;by_cases h:j<n
  .have:=zJQ hto m n (by omega) j (by omega) hj';simp only[gJ];rw[jBl (by omega)];exact this
  .have hjn:j=n:=by rw[rQ]at hj;omega
   subst hjn;simp only[gJ];rw[jC2 (by omega)];simp only[hlen,jBv,jCz];exact zUC hl hd s hto hj' _
theorem zIo{to:Dfn}(hto:Flat p to)(m:Gm):WF p [⟨s,0,yI d.id⟩] (sZ l to d s m).1 (yI to.id):=by
 have hlen:=rQ l to d s m to.slots.length;have h6:=hto.few;exact .record _ _ _ _ _ _ (by omega) to hto rfl (by simp[hlen]) fun j hj=>by rw[jAw];exact zJQ hl hd s hto m _ (jA _) j hj (by omega)
end
def isS(s:Id)(k:Exp):Bool:=decide (k.k=2)&&decide (k.ref=s)
mutual
def rG(s:Id):Exp->Bool->Bool
 | .mk _ k _ r _ ks _,field=>(decide (k=2)&&decide (r=s)&&!field)||iU s (decide (k=8)) ks
def iU(s:Id)(f:Bool):List Exp->Bool
 |[]=>false
 |e::l=>rG s e (f&&isS s e)||iU s f l
end
mutual
def zCH(s:Id):Exp->wB
 | .mk _ k n _ _ ks _=>zAK s (decide (k=8)) n ks
def zAK(s:Id)(f:Bool)(n:Int):List Exp->wB
 |[]=>[]
 |e::l=>(if (f&&isS s e)=true then [n]else [])++zCH s e++zAK s f n l
end
structure Bn(c:Nat)(m:Int)(s:XS):Prop where
 ns:s.ns.length+s.fuel.toNat<=c
 ds:s.ds.length+s.fuel.toNat<=c
 fu:s.fuel<=m
structure Bd(c:Nat)(m:Int)(s:XS):Prop where
 ns:s.ns.length+s.fuel.toNat<=c
 ds:s.ds.length+s.fuel.toNat<=c
 fu:s.fuel<=m
 ok:s.fail=0->s.ds.length+s.fuel.toNat+1<=c
variable{c:Nat}{m:Int}{s:XS}
theorem Bd.bn(h:Bd c m s):Bn c m s:=⟨h.ns,h.ds,h.fu⟩
theorem Bd.mono{m':Int}(h:Bd c m s)(hm:m<=m'):Bd c m' s:=⟨h.ns,h.ds,by have:=h.fu;omega,h.ok⟩
theorem Bn.bad(h:Bn c m s)(hf:s.fail≠0):Bd c m s:=⟨h.ns,h.ds,h.fu,fun e=>(hf e).elim⟩
theorem Bn.fail(h:Bn c m s){x:Int}(hx:x≠0):Bd c m {s with fail:=x}:=⟨h.ns,h.ds,h.fu,fun e=>(hx e).elim⟩
theorem Bn.tick(h:Bn c m s)(e:Exp)(hf:¬s.fuel<=0):Bd c (m-1) (nJ e s):=by obtain⟨h1,h2,h3⟩:=h;unfold nJ;exact⟨by simp only[List.length_append,List.length_singleton];omega,by dsimp only;omega,by dsimp only;omega,fun _=>by dsimp only;omega⟩
theorem Bd.def(h:Bd c m s)(d:Id)(hf:s.fail=0):Bn c m {s with ds:=s.ds++[d]}:=by have:=h.ok hf;exact⟨h.ns,by simp only[jA5,jAz];omega,h.fu⟩
section
variable{p:Prg}{ev:Evl}{c:Nat}{m:Int}
theorem zDW(h:∀e V s,Bn c m s->Bd c m (ev e V s).2)(V:wO):∀(l:wG) (s:XS),Bd c m s->Bd c m (jJ ev V l s).2
 |[],s,hs=>hs
 |e::l,s,hs=>by simp only[jJ];exact zDW h V l _ (h e V s hs.bn)
theorem zEM(h:∀e V s,Bn c m s->Bd c m (ev e V s).2)(V:wO)(i:Id)(b:Exp):∀(l:wI) (r:Val×XS),Bd c m r.2->Bd c m (yB ev V i b l r).2
 |[],r,hs=>hs
 |e::l,r,hs=>by simp only[yB];exact zEM h V i b l _ (h _ _ _ hs.bn)
theorem zRb(h:∀e V s,Bn c m s->Bd c m (ev e V s).2)(d:Dfn)(vs:wI)(s:XS)(hs:Bd c m s):Bd c m (b7 ev d vs s).2:=by
 unfold b7;split
 .exact hs
 .rename_i hf;exact h _ _ _ (hs.def d.id (by omega))
theorem zL7(h:∀e V s,Bn c m s->Bd c m (ev e V s).2)(e:Exp)(V:wO)(s:XS)(hs:Bd c m s):Bd c m (j6 ev e V s).2:=by
 unfold j6;have h0:=h (e.kids.headD .zero) V s hs.bn;generalize ev (e.kids.headD .zero) V s=r at *
 repeat' split
 all_goals first
  |exact h0
  |exact h _ _ _ h0.bn
  |exact zEM h _ _ _ _ _ (h _ _ _ h0.bn)
theorem zQp(h:∀e V s,Bn c m s->Bd c m (ev e V s).2)(fl:Nat)(e:Exp)(V:wO)(s:XS)(hs:Bd c m s):Bd c m (qP p fl ev e V s).2:=by
 unfold qP;have h0:=zDW h V e.kids s hs;generalize jJ ev V e.kids s=r at *
 repeat' split
 all_goals first
  |exact hs
  |exact h0
  |exact zL7 h _ _ _ hs
  |exact zRb h _ _ _ h0
theorem zUR{r:Val×XS}(h:Bd c m r.2):Bd c m (gY r):=by
 unfold gY;split
 .exact h.bn.fail (by decide)
 .exact h
theorem zFo(fl:Nat):∀(n:Nat) e V s,Bn c m s->Bd c m (aT p fl n e V s).2
 | 0,e,V,s,hs=>by
  rw[aT];split
  .rename_i h;exact hs.bad h
  .exact hs.fail (by decide)
 |n+1,e,V,s,hs=>by
  rw[aT];split
  .rename_i h;exact hs.bad h
  .split
   .exact hs.fail (by decide)
   .rename_i h;exact zUR (zQp (zFo fl n) fl e V _ ((hs.tick e h).mono (by omega)))
end
def Eqv(r r':Val×XS):Prop:=r.2=r'.2/\(r.2.fail=0->r.1=r'.1)
theorem Eqv.rfl'(r:Val×XS):Eqv r r:=⟨rfl,fun _=>rfl⟩
theorem Eqv.eq{r r':Val×XS}(h:Eqv r r')(hf:r.2.fail=0):r'=r:=Prod.ext (h.2 hf).symm h.1.symm
section
variable{p:Prg}{f g:Evl}
end
@[simp]theorem qMb:zC prog 227=true:=by kernel_rfl
theorem zJ1(n:Int):mv 227 [int n] [] (int (bH n)) []:=by
 refine ml [] [.slot 2] func227 (by kernel_rfl) ?_
 (conv in kq _ _=>cbv)
 by_cases h1:n < -1099511627776
 .simp[h1];exact zA 0 (by simp[bH,h1,show ¬1099511627776<n by omega])
 .by_cases h2:1099511627776<n
  .simp[h1,h2];exact zA 0 (by simp[bH,h2])
  .simp[h1,h2];exact zA 0 (by simp[bH,h1,h2])
theorem fK(b:Bool):mv 174 [bl b] [] (.agg (zF (eI b))) []:=by
 refine ml [] [.cell 2 3 true] func174 (by kernel_rfl) ?_
 (conv in kq _ _=>cbv)
 cases b with
 |true =>
  simp;exact zA 0 (by simp[zF,eI,Val.k,Val.n,Val.kids])
 |false =>
  simp;exact zA 0 (by simp[zF,eI,Val.k,Val.n,Val.kids])
def Rng(a:Int):Prop:=-1099511627776<=a/\a<=1099511627776
@[simp]theorem qMh:zC prog 226=true:=by kernel_rfl
@[simp]theorem qMi:zC prog 228=true:=by kernel_rfl
@[simp]theorem qMl:zC prog 229=true:=by kernel_rfl
@[simp]theorem qMe:zC prog 230=true:=by kernel_rfl
@[simp]theorem qMk:zC prog 231=true:=by kernel_rfl
theorem zUp(ha:Rng a)(hb:Rng b):mv 226 [int a,int b] [] (int (bH (a+b))) []:=by
 obtain⟨a1,a2⟩:=ha;obtain⟨b1,b2⟩:=hb;refine ml [] [.slot 4] func226 (by kernel_rfl) ?_
 (conv in kq _ _=>cbv)
 have hw:=zY (a+b) (by omega);simp[hw];refine mq (zJ1 (a+b)) (by simp) ?_;simp;exact zA 0 (by simp)
theorem zUy(ha:Rng a)(hb:Rng b):mv 228 [int a,int b] [] (int (bH (a-b))) []:=by
 obtain⟨a1,a2⟩:=ha;obtain⟨b1,b2⟩:=hb;refine ml [] [.slot 4] func228 (by kernel_rfl) ?_
 (conv in kq _ _=>cbv)
 have hw:=zY (a-b) (by omega);simp[hw];refine mq (zJ1 (a-b)) (by simp) ?_;simp;exact zA 0 (by simp)
theorem zOE{m n q:Nat}(hq:1099511627776 / n=q)(hn:0<n):(q<m->1099511627776<m*n)/\(¬q<m->m*n<=1099511627776):=by
 constructor
 .intro h;rw[<-hq]at h;exact(Nat.div_lt_iff_lt_mul hn).1 h
 .intro h;rw[<-hq]at h;have:=mt (Nat.div_lt_iff_lt_mul hn).2 h;omega
theorem zOu(a:Int)(h:a≠0):∃m:Nat,0<m/\(a=m\/a = -(m:Int)):=⟨a.natAbs,by omega,by omega⟩
theorem zOR(ha:Rng a)(hb:Rng b):mv 229 [int a,int b] [] (int (bH (a*b))) []:=by
 obtain⟨a1,a2⟩:=ha;obtain⟨b1,b2⟩:=hb;refine ml [] [.slot 4] func229 (by kernel_rfl) ?_
 (conv in kq _ _=>cbv)
 by_cases h0:a=0
 .subst h0;simp;exact zA 0 (by simp[bH])
 by_cases h1:b=0
 .subst h1;simp[h0];exact zA 0 (by simp[bH])
 obtain⟨m,m0,hm⟩:=zOu a h0;obtain⟨n,n0,hn⟩:=zOu b h1;obtain⟨q,hq⟩:∃q:Nat,1099511627776 / n=q:=⟨_,rfl⟩;obtain⟨c1,c2⟩:=zOE (m:=m) hq n0;have hqd:Int.tdiv 1099511627776 (n:Int)=(q:Int):=by rw[tdN (by omega),<-hq];rfl
 have hqle:q<=1099511627776:=by rw[<-hq];exact Nat.div_le_self _ _
 have wq:=zY (q:Int) (by omega);have wm:=zY (m:Int) (by omega);have wn:=zY (n:Int) (by omega);have wm':IntKind.i64.wrap (-(m:Int)) = -m:=IntWalk.i64_in _ (by omega);have wn':IntKind.i64.wrap (-(n:Int)) = -n:=IntWalk.i64_in _ (by omega);have x1:¬((m:Int) < -m):=by omega
 have x2:(-(m:Int))<m:=by omega
 have y1:¬((n:Int) < -n):=by omega
 have y2:(-(n:Int))<n:=by omega
 have z1:¬((m:Int)<0):=by omega
 have z2:(-(m:Int))<0:=by omega
 have z3:¬((n:Int)<0):=by omega
 have z4:(-(n:Int))<0:=by omega
 have m1:¬m=0:=by omega
 have n1:¬n=0:=by omega
 have p0:(m:Int)*n=((m*n:Nat):Int):=by push_cast;rfl
 generalize hmn:m*n=s at *
 by_cases hc:(q:Int)<m
 .have hs:=c1 (by omega);have k1:bH (s:Int)=1099511627776:=by unfold bH;rw[if_pos (by omega)]
  have k2:bH (-(s:Int)) = -1099511627776:=by unfold bH;rw[if_neg (by omega),if_pos (by omega)]
  rcases hm with rfl|rfl<;>rcases hn with rfl|rfl<;>simp[m1,n1,wm,wn,wm',wn',x1,x2,y1,y2,z1,z2,z3,z4,m0,n0,hqd,wq,hc]<;>exact zA 0 (by simp[Int.neg_mul,Int.mul_neg,p0,k1,k2])
 .have hs:=c2 (by omega);have k1:bH (s:Int)=s:=by unfold bH;rw[if_neg (by omega),if_neg (by omega)]
  have k2:bH (-(s:Int)) = -s:=by unfold bH;rw[if_neg (by omega),if_neg (by omega)]
  have w1:=zY (s:Int) (by omega);have w2:=zY (-(s:Int)) (by omega);rcases hm with rfl|rfl<;>rcases hn with rfl|rfl<;>simp[m1,n1,wm,wn,wm',wn',x1,x2,y1,y2,z1,z2,z3,z4,m0,n0,hqd,wq,hc]<;>exact zA 0 (by simp[Int.neg_mul,Int.mul_neg,p0,k1,k2,w1,w2])
theorem zEE(ha:Rng a)(hb:Rng b):mv 230 [int a,int b] [] (int (rK a b)) []:=by
 obtain⟨a1,a2⟩:=ha;refine ml [] [.slot 4] func230 (by kernel_rfl) ?_
 (conv in kq _ _=>cbv)
 by_cases h1:b=0
 .subst h1;simp;exact zA 0 (by simp[rK])
 have ht:=zIM (b:=b) a1 a2;have w1:=zY (a.tdiv b) (by omega);have w2:=zY (a.tdiv b-1) (by omega);have e:rK a b=if a.tmod b≠0/\¬(a<0↔b<0)then a.tdiv b-1 else a.tdiv b:=by unfold rK;rw[if_neg h1]
 rw[e];by_cases hm:a.tmod b=0
 .simp[h1,hm,w1];exact zA 0 (by simp[hm])
 by_cases s1:a<0<;>by_cases s2:b<0<;>simp[h1,hm,w1,s1,s2,w2]<;>exact zA 0 (by simp[hm,s1,s2])
theorem zRF(ha:Rng a)(hb:Rng b):mv 231 [int a,int b] [] (int (zDR a b)) []:=by
 have hd:=zEE ha hb;refine ml [] [.slot 4] func231 (by kernel_rfl) ?_
 (conv in kq _ _=>cbv)
 by_cases h1:b=0
 .subst h1;simp;exact zA 0 (by simp[zDR])
 have hr:=zAS (a:=a) hb.1 hb.2;have e:zDR a b=a-b*rK a b:=by unfold zDR;rw[if_neg h1]
 obtain⟨a1,a2⟩:=ha;have w1:=zY (b*rK a b) (by omega);have w2:=zY (a-b*rK a b) (by omega);simp[h1];refine mq hd (by simp) ?_;simp[w1,w2];exact zA 0 (by simp[e])
def zKR:Go.Shelf.Ren:=⟨fun | 4=>204|n=>n,fun | 0=>0 | 3=>3 | 4=>4 | 9=>9 | 20=>20 | 22=>44 | 25=>46|n=>n,fun n=>n⟩
theorem zSz:Go.Proofs.Lays8.n4 prog zKR:={
 mixed:=by kernel_rfl,
 f4:=⟨f204.name,by decide,func204.trans (congrArg some (by kernel_rfl))⟩,
 t0:=underlying0,
 a0:=isAgg0,
 z0:=sizeOf0,
 v0:=zeroValue0,
 t3:=underlying3,
 a3:=isAgg3,
 z3:=sizeOf3,
 v3:=zeroValue3,
 t4:=underlying4,
 a4:=isAgg4,
 z4:=sizeOf4,
 v4:=zeroValue4,
 t9:=underlying9,
 a9:=isAgg9,
 z9:=sizeOf9,
 v9:=zeroValue9,
 t20:=underlying20,
 a20:=isAgg20,
 z20:=sizeOf20,
 v20:=zeroValue20,
 t22:=underlying44,
 a22:=isAgg44,
 z22:=sizeOf44,
 v22:=zeroValue44}
theorem zJX(n:Nat)(hn:n<=1000000):mv 204 [.nil,int n] [] (.row 0 0) [.row false 46 3 0 []] :=
 zPu (ρ:=zKR) (sz:=3) (bs:=40) (z:=.agg #[.int .i64 0,.int .i64 0,.slice none 0 0]) zSz (by kernel_rfl) rfl (by omega) (by omega) (by omega)
def dC(Ls:List wI):wE:=Ls.map fun l=>A.sl l.length (zR l)
theorem pW:∀(Ls:List wI),qY (dC Ls)
 |[]=>qY.nil
 |l::Ls=>by
  have h1:=pW Ls;have h2:=eW l;refine⟨?_,fun rf g=>?_⟩
  .show jT (A.sl l.length (zR l)::dC Ls)=_;simp[h1.1];rfl
  .show vwL rf g (A.sl l.length (zR l)::dC Ls)=_;simp[h1.2];rfl
@[simp]theorem zVe(l:List wI):jT (dC l)=dC l:=(pW l).1
@[simp]theorem qAw{rf g}(l:List wI):vwL rf g (dC l)=dC l:=(pW l).2 _ _
@[simp]theorem zWE(l:List wI):(dC l).length=l.length:=by simp[dC]
variable{Ls:List wI}
theorem zBq(h:i<Ls.length):(dC Ls).drop i=.sl Ls[i].length (zR Ls[i])::dC (Ls.drop (i+1)):=by rw[dC,<-List.map_drop,jAo h];rfl
def oZ(Ls:List wI):Nat:=Ls.flatten.length
theorem zHK(h:i<Ls.length):oZ (Ls.take (i+1))=oZ (Ls.take i)+Ls[i].length:=by rw[oZ,oZ,jA6 h,jDk];simp
theorem zOx(Ls:List wI)(i:Nat):oZ (Ls.take i)<=oZ Ls:=by
 have:Ls.flatten=(Ls.take i).flatten++(Ls.drop i).flatten:=by rw[<-jDk,jC1]
 rw[oZ,oZ,this,jA5];omega
theorem zGm(Ls:List wI)(hb:oZ Ls<=1000000):mv 196 [.sl Ls.length (dC Ls)] [] (.sl (oZ Ls) (zR Ls.flatten)) []:=by
 refine ml [] [.slot 2] func196 (by kernel_rfl) ?_
 (conv in kq _ _=>cbv)
 simp;intro hl;refine qK (S:=Nat) (fun i=>[(0,.sl Ls.length (dC Ls)),(3,int (oZ (Ls.take i))),(9,.sl Ls.length (dC Ls)),(10,int Ls.length),(11,int i)]) (fun s=>[]) (fun i=>i<=Ls.length) (fun i=>Ls.length-i) 0 (by simp)
  (mu [] 0 (by rfl) (by simp[oZ])) ?_
 intro i hi;by_cases h:i<Ls.length
 .have ht:=zHK h;have hle:=zOx Ls (i+1);have hw:IntKind.i64.wrap ((oZ (Ls.take i):Int)+(Ls[i].length:Int))=(oZ (Ls.take (i+1)):Nat):=by rw[ht];push_cast;exact IntWalk.i64_in _ (by omega)
  have h0:¬((oZ (Ls.take (i+1)):Nat):Int)<0:=by omega
  simp[h,zBq h];intro _;simp[hw,h0];exact zO (i+1) h (by omega) (mu [] 0 (by rfl) (by simp[z8 h hl]))
 .have hil:i=Ls.length:=by omega
  subst hil;have hI:¬(Ls.length:Int)<Ls.length:=by omega
  simp;refine mn (zJX (oZ Ls) hb) [] (by simp) ?_;simp;intro _;refine qK (S:=Nat) (fun i=>[(6,.row 0 (oZ (Ls.take i))),(25,.sl Ls.length (dC Ls)),(26,int Ls.length),(27,int i)]) (fun i=>[.row false 46 3 (oZ (Ls.take i)) (zR (Ls.take i).flatten)]) (fun i=>i<=Ls.length) (fun i=>Ls.length-i) 0 (by simp)
   (mu [0] 0 (by rfl) (by simp[oZ])) ?_
  intro i hi;by_cases h:i<Ls.length
  .have ht:=zHK h;have hle:=zOx Ls (i+1);have hf:(Ls.take (i+1)).flatten=(Ls.take i).flatten++Ls[i]:=by rw[jA6 h,jDk];simp
   simp[h,zBq h];refine⟨⟨by simp[maxLen];omega,by omega⟩,?_⟩;exact zO (i+1) h (by omega) (mu [0] 0 (by rfl) (by simp[ht,hf,aY,z8 h hl]))
  .have hil:i=Ls.length:=by omega
   subst hil;simp;exact zA 1 (by simp)
mutual
theorem zA3:∀(l:wI),j5 l<=1000000->mv 108 [.sl l.length (zR l)] [] (.sl l.length (zR l)) []
 |l,hz=>by
  have hl6:=iS l;refine ml [] [.slot 2] func108 (by kernel_rfl) ?_
  (conv in kq _ _=>cbv)
  simp;intro hl;refine qK (S:=Nat) (fun i=>[(3,.row 0 i),(6,.sl l.length (zR l)),(7,int l.length),(8,int i)]) (fun i=>[.row false 46 3 i (zR (l.take i))]) (fun i=>i<=l.length) (fun i=>l.length-i) 0 (by simp)
   ((qS (t:=3) (by simp) 46 3).trans (mu [0] 0 (by rfl) (by simp))) ?_
  intro i hi;by_cases h:i<l.length
  .have hk:=zDs l hz l[i] (jA0 h);have ht:zR (l.take (i+1))=zR (l.take i)++[.lit (.int .i64 l[i].k),.lit (.int .i64 l[i].n),.sl l[i].kids.length (zR l[i].kids)]:=by rw[jA6 h,aY];simp
   simp[h,qL h];refine mq hk (by simp) ?_;simp;refine⟨⟨by simp[maxLen];omega,by omega⟩,?_⟩;exact zO (i+1) h (by omega) (mu [0] 0 (by rfl) (by simp[ht,z8 h hl]))
  .have hil:i=l.length:=by omega
   subst hil;simp;exact zA 1 (by simp)
theorem zDs:∀(l:wI),j5 l<=1000000->∀x∈l,mv 108 [.sl x.kids.length (zR x.kids)] [] (.sl x.kids.length (zR x.kids)) []
 |[],_,x,h=>by simp at h
 | .mk k n ks::l,hz,x,h=>by
  simp only[j5,qN]at hz
  if e:x∈l then exact zDs l (by omega) x e
  else
   have:x=.mk k n ks:=(jA3.1 h).resolve_right e;subst this;exact zA3 ks (by omega)
end
def qFV:Nat->Option wD:=fun|9=>k_ [0,2,2,0,2,2,301,302,0,0]|_=>none
@[simp]theorem qHS(b:Bool):(eI b).k=1:=rfl
@[simp]theorem qHT(b:Bool):(eI b).n=if b then 1 else 0:=rfl
@[simp]theorem zXJ(b:Bool):(eI b).kids=[]:=rfl
@[simp]theorem zYY{env:Env}:ev env (.global 0)=.rptr [.clo 226 [] [],.clo 228 [] [],.clo 229 [] [],.clo 230 [] [],.clo 231 [] []]:=rfl
theorem bB:2<=maxLen:=by simp[maxLen]
theorem lO:1<=maxLen:=by simp[maxLen]
theorem zYW{n:Int}(h:OpT n ts t)(hv:TyL p ts vs)(hs:∀v∈vs,qN v<=256):mv 177 [int n,.sl vs.length (zR vs)] [] (.agg (zF (opV n vs))) []:=by
 refine mh qFV [64] [] [] [.cell 4 3 true] func177 (by kernel_rfl) ?_
 (conv in kH _ _ _=>cbv)
 cases h with
 |arith n h1 h2 =>
  obtain⟨a,b,rfl,ha,hb⟩:=hv.two;obtain⟨x,rfl,hx⟩:=ha.int_inv;obtain⟨y,rfl,hy⟩:=hb.int_inv;have e:opV n [.mk 0 x [],.mk 0 y []]=.mk 0 (uN n x y) []:=by simp only[opV,if_pos h2];rfl
  rw[e];have hn:n=0\/n=1\/n=2\/n=3\/n=4:=by omega
  rcases hn with rfl|rfl|rfl|rfl|rfl
  .simp[Val.k,Val.n,Val.kids,bB,lO];refine z7 (zUp hx hy) (by simp) (by simp) ?_;simp;exact zA 0 (by simp[zF,Val.k,Val.n,Val.kids,uN])
  .simp[Val.k,Val.n,Val.kids,bB,lO];refine z7 (zUy hx hy) (by simp) (by simp) ?_;simp;exact zA 0 (by simp[zF,Val.k,Val.n,Val.kids,uN])
  .simp[Val.k,Val.n,Val.kids,bB,lO];refine z7 (zOR hx hy) (by simp) (by simp) ?_;simp;exact zA 0 (by simp[zF,Val.k,Val.n,Val.kids,uN])
  .simp[Val.k,Val.n,Val.kids,bB,lO];refine z7 (zEE hx hy) (by simp) (by simp) ?_;simp;exact zA 0 (by simp[zF,Val.k,Val.n,Val.kids,uN])
  .simp[Val.k,Val.n,Val.kids,bB,lO];refine z7 (zRF hx hy) (by simp) (by simp) ?_;simp;exact zA 0 (by simp[zF,Val.k,Val.n,Val.kids,uN])
 |less =>
  obtain⟨a,b,rfl,ha,hb⟩:=hv.two;obtain⟨x,rfl,hx⟩:=ha.int_inv;obtain⟨y,rfl,hy⟩:=hb.int_inv;simp[Val.k,Val.n,Val.kids,bB,lO];refine⟨_,_,aX 2,?_⟩;simp[Val.k,Val.n,Val.kids,bB,lO];refine mq (fK (decide (x<y))) (by simp[zF]) ?_;simp[zF];exact zA 0 (by by_cases hx0:x<y<;>simp[zF,opV,zX,hx0])
 |same u =>
  obtain⟨a,b,rfl,ha,hb⟩:=hv.two;simp[bB];refine⟨_,_,aX 2,?_⟩;simp[bB];refine mq (zEb a b) (by simp[zF]) ?_;simp;refine mq (fK (decide (gG a b=0))) (by simp[zF]) ?_;simp[zF];exact zA 0 (by simp[zF,opV])
 |andor n h =>
  obtain⟨a,b,rfl,ha,hb⟩:=hv.two;obtain⟨x,rfl,hx⟩:=ha.bool_inv;obtain⟨y,rfl,hy⟩:=hb.bool_inv;rcases h with rfl|rfl
  .rcases hx with rfl|rfl<;>rcases hy with rfl|rfl
   .simp[Val.k,Val.n,Val.kids,bB];refine⟨_,_,aX 2,?_⟩;simp[Val.k,Val.n,Val.kids,bB];refine mq (fK false) (by simp[zF]) ?_;simp[zF];exact zA 0 (by simp[zF,opV,zX])
   .simp[Val.k,Val.n,Val.kids,bB];refine⟨_,_,aX 2,?_⟩;simp[Val.k,Val.n,Val.kids,bB];refine mq (fK false) (by simp[zF]) ?_;simp[zF];exact zA 0 (by simp[zF,opV,zX])
   .simp[Val.k,Val.n,Val.kids,bB];refine⟨_,_,aX 2,?_⟩;simp[Val.k,Val.n,Val.kids,bB];refine mq (fK false) (by simp[zF]) ?_;simp[zF];exact zA 0 (by simp[zF,opV,zX])
   .simp[Val.k,Val.n,Val.kids,bB];refine⟨_,_,aX 2,?_⟩;simp[Val.k,Val.n,Val.kids,bB];refine mq (fK true) (by simp[zF]) ?_;simp[zF];exact zA 0 (by simp[zF,opV,zX])
  .rcases hx with rfl|rfl<;>rcases hy with rfl|rfl
   .simp[Val.k,Val.n,Val.kids,bB];refine⟨_,_,aX 2,?_⟩;simp[Val.k,Val.n,Val.kids,bB];refine mq (fK false) (by simp[zF]) ?_;simp[zF];exact zA 0 (by simp[zF,opV,zX])
   all_goals
    simp[Val.k,Val.n,Val.kids,bB];refine⟨_,_,aX 2,?_⟩;simp[Val.k,Val.n,Val.kids,bB];refine mq (fK true) (by simp[zF]) ?_;simp[zF];exact zA 0 (by simp[zF,opV,zX])
 |not =>
  obtain⟨a,rfl,ha⟩:=hv.one;obtain⟨x,rfl,hx⟩:=ha.bool_inv;simp[Val.k,Val.n,Val.kids,bB,lO];refine mq (fK (decide (x=0))) (by simp[zF]) ?_;simp[zF];exact zA 0 (by by_cases hx0:x=0<;>simp[zF,opV,zX,hx0])
 |join u =>
  obtain⟨a,b,rfl,ha,hb⟩:=hv.two;have h1:=hs a (by simp);have h2:=hs b (by simp);cases a with|mk k1 n1 l1 =>
  cases b with|mk k2 n2 l2 =>
  simp only[qN]at h1 h2;have z1:=iS l1;have z2:=iS l2;have hc:mv 196 [.sl 2 [.sl l1.length (zR l1),.sl l2.length (zR l2)]] [] (.sl (l1.length+l2.length) (zR (l1++l2))) []:=by simpa[dC,oZ]using zGm [l1,l2] (by simp[oZ];omega)
  have hk:=zA3 (l1++l2) (by rw[iK];omega);rw[jA5]at hk;simp[Val.k,Val.n,Val.kids,bB,lO];refine⟨_,_,aX 2,?_⟩;simp[Val.k,Val.n,Val.kids,bB,lO];refine mq hc (by simp) ?_;simp;refine mq hk (by simp) ?_;simp;exact zA 0 (by simp[zF,opV,Val.k,Val.n,Val.kids])
 |len u =>
  obtain⟨a,rfl,ha⟩:=hv.one;simp[lO];exact fun _=>zA 0 (by simp[zF,opV,Val.k,Val.n,Val.kids])
def zAQ(n:Nat):wB:=(List.range n).map fun(i:Nat)=>(i:Int)
def xY(s:Id)(e:Exp)(n:Nat):wB:=(zAQ n).filter fun i=>rG s e false||decide (i∈zCH s e)
end Go.Proofs.YtdnelmeboihpkaaGreatDoor
