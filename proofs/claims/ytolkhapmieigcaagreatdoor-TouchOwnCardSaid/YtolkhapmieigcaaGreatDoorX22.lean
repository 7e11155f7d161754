/- slices.DeleteFunc at the tests, and which tests run again, walked. -/
import Derived.Test.YtolkhapmieigcaaGreatDoorX21
set_option linter.unusedVariables false
set_option maxHeartbeats 8000000
set_option maxRecDepth 100000
set_option linter.unusedSimpArgs false
open Go.Proofs.Tryz
namespace Go.Proofs.YtolkhapmieigcaaGreatDoor
open Go.Abs
def zQL:K:=G [kMn 4] (G [M 8 0,M 9 1,kC 10 125 [(kt 8),(kt 9)],M 5 10] (Z (G [M 11 5,⟨none,.eqv (some 12) false .i (kt 11) (kc (-1))⟩] (Y 12 (G [M 13 0,M 4 13] kr) ks)) (Z (G [M 14 5,kBi 15 14 1 .add,M 6 15] (K.block 0 (K.loop (Z (G [M 16 6,M 17 0,kN 18 17,kB 19 16 18 .lss] (Y 19 ks (K.exit 0))) (Z (K.block 1 (G [M 22 0,M 23 6,kX 24 22 23 3,J 25 24 3,kZ 7 [ki,ki,ki],S 7 25 3] (G [M 26 1,J 27 7 3,⟨none,.call (some 28) (kt 26) [(kt 27)]⟩,kR 29 28] (Y 29 (G [M 30 0,M 31 5,J 32 7 3,kX 33 30 31 3,S 33 32 3] (K.ops [M 34 5,kBi 35 34 1 .add,M 5 35])) ks)))) (K.ops [M 20 6,kBi 21 20 1 .add,M 6 21])))))) (G [M 36 0,M 37 5,⟨none,.rslc (some 38) (kt 36) 3 (some (kt 37)) none⟩,⟨none,.mop none (.clr 3 [ki,ki,ki]) [(kt 38)]⟩] (G [M 39 0,M 40 5,⟨none,.rslc (some 41) (kt 39) 3 none (some (kt 40))⟩,M 4 41] kr)))))
theorem zW9:ky f57 zQL:=m_ (by kernel_rfl)
theorem zVH{P:Program}{f:FuncId}{args:wF} {U0 U1:St}{l m sz:Nat}{fz:Bool}{e:TypeId}{cs:wF}(h:Ret P f args U0 (.row l m) U1)(hl : U1[l]?=some (.row fz e sz m cs)):Ret P f args U0 (.win l m 0 m sz) U1:=by
 intro H L w vs hs ha;refine(h H L w vs hs ha).mono fun e' w' hh=>?_
 obtain⟨o,U',H',L',g1,g2,rfl,rfl⟩:=hh;refine⟨.ret (.win l m 0 m sz),_,H',L',?_,g2,rfl,rfl⟩;obtain⟨v,rfl,hv⟩:=g1;refine⟨v,rfl,?_⟩;simp only[Rel]at hv ⊢;obtain⟨g0,li,e1,e2,e3,hv⟩:=hv;refine⟨g0,li,e1,e2,e3,fun hn=>⟨jA _,?_⟩⟩;have hob:=g2.st.obj l li _ e1 hl;simp only[qB]at hob;obtain⟨_,_,_,hob⟩:=hob;rw[hv hn];rcases hob with ⟨hb,hz⟩|⟨b,cur,hb,_,k1,k2,_⟩
 .rw[hb];exact⟨none,0,by rw[hz],by omega,jB0 _,.inl rfl⟩
 .rw[hb];exact⟨_,_,rfl,k1,k2,.inr ⟨b,rfl,rfl,by simp⟩⟩
theorem zKc(l:wG)(hb:l.length<=1000000):my 58 [.row 0 l.length] [.row false 32 3 l.length (zY l)] (.win 0 l.length 0 (yS l).length 3)
 [.row false 32 3 l.length (zY (yS l++cJ (l.length-(yS l).length)))]:=by
 have h:=zFk l (by omega);unfold zHx at h;by_cases hc:yS l=l
 .rw[if_pos hc]at h;have:=zVH h (fz:=false) (e:=32) (sz:=3) (cs:=zY (yS l++cJ (l.length-(yS l).length))) rfl;have e:(yS l).length=l.length:=by rw[hc]
  rw[e]at this ⊢;exact this
 .rw[if_neg hc]at h;exact h
theorem zIG(Ls:List wG)(hb:eI Ls<=1000000):my 56 [.sl Ls.length (bX Ls)] [] (.row 0 (eI Ls)) [.row false 32 3 (eI Ls) (zY Ls.flatten)]:=by
 refine mq [] [.slot 2] func56 (by kernel_rfl) ?_
 (conv in kq _ _=>cbv)
 simp -implicitDefEqProofs;intro hl;refine qI (S:=Nat) (fun i=>[(0,.sl Ls.length (bX Ls)),(3,int (eI (Ls.take i))),(9,.sl Ls.length (bX Ls)),(10,int Ls.length),(11,int i)]) (fun s=>[]) (fun i=>i<=Ls.length) (fun i=>Ls.length-i) 0 (by simp)
  (mw [] 0 (by rfl) (by simp[eI])) ?_
 intro i hi;by_cases h:i<Ls.length
 .have ht:=zAp h;have hle:=zEH Ls (i+1);have hw:IntKind.i64.wrap ((eI (Ls.take i):Int)+(Ls[i].length:Int))=(eI (Ls.take (i+1)):Nat):=by rw[ht];push_cast;exact IntWalk.i64_in _ (by omega)
  have h0:¬((eI (Ls.take (i+1)):Nat):Int)<0:=by omega
  simp -implicitDefEqProofs [h,pD h];intro _;simp -implicitDefEqProofs [hw,h0];exact zO (i+1) h (by omega) (mw [] 0 (by rfl) (by simp[zZ h hl]))
 .have hil:i=Ls.length:=by omega
  subst hil;have hI:¬(Ls.length:Int)<Ls.length:=by omega
  simp -implicitDefEqProofs;refine mr (zF7 (eI Ls) (by omega)) [] (by simp) ?_;simp -implicitDefEqProofs;intro _;refine qI (S:=Nat) (fun i=>[(6,.row 0 (eI (Ls.take i))),(25,.sl Ls.length (bX Ls)),(26,int Ls.length),(27,int i)]) (fun i=>[.row false 32 3 (eI (Ls.take i)) (zY (Ls.take i).flatten)]) (fun i=>i<=Ls.length) (fun i=>Ls.length-i) 0 (by simp)
   (mw [0] 0 (by rfl) (by simp[eI])) ?_
  intro i hi;by_cases h:i<Ls.length
  .have ht:=zAp h;have hle:=zEH Ls (i+1);have hf:(Ls.take (i+1)).flatten=(Ls.take i).flatten++Ls[i]:=by rw[jA7 h,jCm];simp
   simp -implicitDefEqProofs [h,pD h];refine⟨⟨by simp[maxLen];omega,by omega⟩,?_⟩;exact zO (i+1) h (by omega) (mw [0] 0 (by rfl) (by simp[ht,hf,qO,zZ h hl]))
  .have hil:i=Ls.length:=by omega
   subst hil;simp -implicitDefEqProofs;exact mv [0] 0 (by rfl) (by simp)
theorem zKm{g:Id->Bool}{L:wG}(h:L.findIdx? (fun x=>!g x)=none):L.filter g=L:=by
 rw[List.filter_eq_self];intro x hx;have:=List.findIdx?_eq_none_iff.1 h x hx
 simpa using this
section
variable{b l r:Prg}{hb hl hr:wQ}(fb:Fit b hb)(fl:Fit l hl)(fr:Fit r hr)(nb:FineP b)(nl:FineP l)(nr:FineP r)(fuel:Int)(h0:0<=fuel)(hfu:fuel<=90000)
def sI(b l r:Prg)(fuel:Int):St:=[.box (zI b),.box (zI l),.box (zI r),.box [int fuel]]
include fb fl fr nb nl nr h0 hfu
theorem zHi(x:Id):my 59 [.agg (zS x),.ptr 0 0,.ptr 1 0,.ptr 2 0,.ptr 3 0] (sI b l r fuel) (bl (!uK b l r fuel x)) (sI b l r fuel):=by
 have hPb:zI b=[.sl b.mods.length (qA b.mods),.sl b.defs.length (zQ b.defs)]:=rfl;have hPl:zI l=[.sl l.mods.length (qA l.mods),.sl l.defs.length (zQ l.defs)]:=rfl;have hPr:zI r=[.sl r.mods.length (qA r.mods),.sl r.defs.length (zQ r.defs)]:=rfl;have ho:=zD0 fb fl fr nb nl nr x fuel h0 hfu;have hg:uK b l r fuel x=(decide ((ofT b l r x fuel).2≠0)||((ofT b l r x fuel).1.1&&(ofT b l r x fuel).1.2)):=rfl;rw[hg];generalize ofT b l r x fuel=o at *
 obtain⟨⟨o1,o2⟩,o3⟩:=o;refine mq [] [.slot 6] func59 (by kernel_rfl) ?_
 (conv in kq _ _=>cbv);unfold sI
 simp -implicitDefEqProofs [hPb,hPl,hPr,zS];refine mu ho (by simp[hPb,hPl,hPr,zS,vH]) ?_;by_cases he:o3=0
 .cases o1<;>cases o2<;>simp -implicitDefEqProofs [vH,he]<;>exact mv [0,1,2,3] 0 (by rfl) (by simp[hPb,hPl,hPr])
 .simp -implicitDefEqProofs [vH,he];exact mv [0,1,2,3] 0 (by rfl) (by simp[hPb,hPl,hPr])
def zIS(g:Id->Bool)(L:wG):Int:=match L.findIdx? (fun x=>!g x)with
 |some i=>i
 |none=>-1
def gY:A:=.clo 59 [] [.ptr 0 0,.ptr 1 0,.ptr 2 0,.ptr 3 0]
theorem zUU(R:wG)(m:Nat)(hm:m<=R.length)(hR:R.length<=1000000):my 125 [.win 4 R.length 0 m 3,gY] (sI b l r fuel++[.row false 32 3 R.length (zY R)])
 (int (zIS (uK b l r fuel) (R.take m))) (sI b l r fuel++[.row false 32 3 R.length (zY R)]):=by
 have hPb:zI b=[.sl b.mods.length (qA b.mods),.sl b.defs.length (zQ b.defs)]:=rfl;have hPl:zI l=[.sl l.mods.length (qA l.mods),.sl l.defs.length (zQ l.defs)]:=rfl;have hPr:zI r=[.sl r.mods.length (qA r.mods),.sl r.defs.length (zQ r.defs)]:=rfl;have ha:=zHi fb fl fr nb nl nr fuel h0 hfu;generalize uK b l r fuel=g at *
 refine mq [] [.slot 4] func125 (by kernel_rfl) ?_
 (conv in kq _ _=>cbv);unfold sI gY
 unfold sI at ha;simp -implicitDefEqProofs [rY];refine qI (S:=Nat) (fun i=>[(0,.win 4 R.length 0 m 3),(1,gY),(7,int m),(8,int i)]) (fun i=>[.box (zI b),.box (zI l),.box (zI r),.box [int fuel],.row false 32 3 R.length (zY R)]) (fun i=>i<=m/\∀x∈R.take i,g x=true) (fun i=>m-i) 0 (by simp)
  (mw [0,1,2,3,4] 0 (by rfl) (by simp[hPb,hPl,hPr,gY])) ?_
 rintro i ⟨hi,hn⟩;by_cases h:i<m
 .have hiR:i<R.length:=by omega
  have hb3:i*3+3<=R.length*3:=by omega
  have hw:=yK i (by omega);have hcd:=jN hiR;have hax:=ha R[i];have hts:=jA7 hiR;generalize hx:R[i]=x at *
  simp -implicitDefEqProofs [h,hcd,hb3,hiR,gY,hPb,hPl,hPr];refine mr hax [0,1,2,3] (by simp[hPb,hPl,hPr,zS]) ?_;simp -implicitDefEqProofs;cases hg:g x with
  |false =>
   have:zIS g (R.take m)=i:=by
    have hfi:(R.take m).findIdx? (fun x=>!g x)=some i:=List.findIdx?_eq_some_iff_getElem.2 ⟨by simp;omega,by simp[hx,hg],fun j hj=>by
     have hjR:j<R.length:=by omega
     have:=hn R[j] (by rw[List.mem_take_iff_getElem];exact⟨j,by omega,rfl⟩);simp[this]⟩
    unfold zIS;rw[hfi]
   simp -implicitDefEqProofs;exact mv [0,1,2,3,4] 0 (by rfl) (by simp[hPb,hPl,hPr,this])
  |true =>
   simp -implicitDefEqProofs;exact zO (i+1) ⟨h,fun y hy=>by
    rw[hts]at hy;rcases jA6.1 hy with hy|hy
    .exact hn y hy
    .rw[jAi.1 hy];exact hg⟩ (by omega) (mw [0,1,2,3,4] 0 (by rfl) (by simp[hPb,hPl,hPr,gY,hw]))
 .have hie:i=m:=by omega
  subst hie;have:zIS g (R.take i) = -1:=by unfold zIS;rw[List.findIdx?_eq_none_iff.2 fun x hx=>by simp[hn x hx]]
  simp -implicitDefEqProofs;exact mv [0,1,2,3,4] 0 (by rfl) (by simp[hPb,hPl,hPr,this])
theorem zU1(R:wG)(m:Nat)(hm:m<=R.length)(hR:R.length<=1000000):∃Z:wG,my 57 [.win 4 R.length 0 m 3,gY] (sI b l r fuel++[.row false 32 3 R.length (zY R)])
 (.win 4 R.length 0 ((R.take m).filter (uK b l r fuel)).length 3) (sI b l r fuel++[.row false 32 3 R.length (zY ((R.take m).filter (uK b l r fuel)++Z))]):=by
 have hPb:zI b=[.sl b.mods.length (qA b.mods),.sl b.defs.length (zQ b.defs)]:=rfl;have hPl:zI l=[.sl l.mods.length (qA l.mods),.sl l.defs.length (zQ l.defs)]:=rfl;have hPr:zI r=[.sl r.mods.length (qA r.mods),.sl r.defs.length (zQ r.defs)]:=rfl;have ha:=zHi fb fl fr nb nl nr fuel h0 hfu;have hx:=zUU fb fl fr nb nl nr fuel h0 hfu R m hm hR;generalize uK b l r fuel=g at *
 cases hf:(R.take m).findIdx? (fun x=>!g x)with
 |none =>
  have hid:zIS g (R.take m) = -1:=by unfold zIS;rw[hf]
  rw[zKm hf];refine⟨R.drop m,?_⟩;rw[jBw];rw[hid]at hx;refine zH func57 rfl zW9 (rs:=[.slot 4]) (by kernel_rfl) ?_;unfold zQL;unfold sI gY at hx ⊢;simp -implicitDefEqProofs;refine mr hx [0,1,2,3,4] (by simp[hPb,hPl,hPr]) ?_;simp -implicitDefEqProofs;exact mv [0,1,2,3,4] 0 (by rfl) (by simp[hPb,hPl,hPr,hm])
 |some i0 =>
  have hid:zIS g (R.take m)=i0:=by unfold zIS;rw[hf]
  obtain⟨hi0,hg0,hgl⟩:=List.findIdx?_eq_some_iff_getElem.1 hf;have hi0m:i0<m:=by simp at hi0;omega
  have hi0R:i0<R.length:=by omega
  have hfi:(R.take (i0+1)).filter g=R.take i0:=by
   rw[jA7 hi0R,jCw];have h1:(R.take i0).filter g=R.take i0:=by
    rw[List.filter_eq_self];intro x hx';obtain⟨j,hj,rfl⟩:=List.mem_take_iff_getElem.1 hx';have:=hgl j (by omega)
    simpa using this
   have h2:g R[i0]=false:=by simpa using hg0
   rw[h1];simp[h2]
  refine⟨cJ (m-((R.take m).filter g).length)++R.drop m,?_⟩;rw[hid]at hx;have w1:IntKind.i64.wrap ((i0:Int)+1)=((i0+1:Nat):Int):=by push_cast;exact IntWalk.i64_in _ (by omega)
  have hne1:¬(i0:Int) = -1:=by omega
  refine zH func57 rfl zW9 (rs:=[.slot 4]) (by kernel_rfl) ?_;unfold zQL;unfold sI gY at hx ⊢;unfold sI at ha;simp -implicitDefEqProofs;refine mr hx [0,1,2,3,4] (by simp[hPb,hPl,hPr]) ?_;simp -implicitDefEqProofs [hne1,w1];refine qI (S:=Nat×Nat×wG) (fun s=>[(0,.win 4 R.length 0 m 3),(1,gY),(5,int s.2.1),(6,int s.1)]) (fun s=>[.box (zI b),.box (zI l),.box (zI r),.box [int fuel],.row false 32 3 R.length (zY s.2.2)])
   (fun s=>s.1<=m/\s.2.1<s.1/\s.2.2.length=R.length/\s.2.1=((R.take s.1).filter g).length/\s.2.2.take s.2.1=(R.take s.1).filter g/\s.2.2.drop s.1=R.drop s.1) (fun s=>m-s.1) (i0+1,i0,R)
   ⟨hi0m,by simp,rfl,by simp only[hfi];simp;omega,by simp only[hfi],rfl⟩
   (mw [0,1,2,3,4] 0 (by rfl) (by simp[hPb,hPl,hPr,gY])) ?_
  rintro⟨j,k,X⟩ ⟨r1,r2,r3,r4,r5,r6⟩;simp only at r1 r2 r3 r4 r5 r6;by_cases h:j<m
  .have hjR:j<R.length:=by omega
   have hjX:j<X.length:=by omega
   have hkX:k<X.length:=by omega
   have hXj:X[j]=R[j]:=by have:=congrArg (fun x:wG=>x[0]?) r6;simp only[jCt,jCj]at this;rw[jA2 hjX,jA2 hjR]at this;exact jAy this
   have hb3:j*3+3<=R.length*3:=by omega
   have hbk:k*3+3<=R.length*3:=by omega
   have hkm:k<m:=by omega
   have hcd:=jN hjX;have hst:=sT (R:=X) (k:=k) R[j] hkX;have hax:=ha R[j];have wj:IntKind.i64.wrap ((j:Int)+1)=((j+1:Nat):Int):=by push_cast;exact IntWalk.i64_in _ (by omega)
   have wk:IntKind.i64.wrap ((k:Int)+1)=((k+1:Nat):Int):=by push_cast;exact IntWalk.i64_in _ (by omega)
   have hts:(R.take (j+1)).filter g=(R.take j).filter g++(if g R[j]=true then [R[j]]else []):=by rw[jA7 hjR,jCw];by_cases hg:g R[j]=true<;>simp[hg]
   have hdr:∀Y:wG,Y.drop j=R.drop j->Y.drop (j+1)=R.drop (j+1):=fun Y hY=>by
    have:=congrArg (fun x:wG=>x.drop 1) hY
    simpa only[jAu]using this
   have hset:(X.set k R[j]).drop (j+1)=R.drop (j+1):=by rw[List.drop_set_of_lt (by omega)];exact hdr X r6
   have hstk:(X.set k R[j]).take (k+1)=X.take k++[R[j]]:=zL5 hkX;rw[hXj]at hcd;generalize R[j]=x at *
   simp -implicitDefEqProofs [h,hcd,hb3,hjR,r3,gY,hPb,hPl,hPr];refine mr hax [0,1,2,3] (by simp[hPb,hPl,hPr,zS]) ?_;cases hg:g x with
   |false =>
    rw[hg]at hts;simp only[jAg,if_false,jAt]at hts;simp -implicitDefEqProofs;exact zO (j+1,k,X) ⟨h,by simp only;omega,r3,by simp only[hts];exact r4,by simp only[hts];exact r5,hdr X r6⟩ (by simp only;omega) (mw [0,1,2,3,4] 0 (by rfl) (by simp[hPb,hPl,hPr,gY,wj]))
   |true =>
    rw[hg]at hts;simp only[if_true]at hts;simp -implicitDefEqProofs [hkm,hbk,r3,hst,zS];exact zO (j+1,k+1,X.set k x) ⟨h,by simp only;omega,by simp[r3],by simp only[hts,jA4,<-r4];simp,by simp only[hts,hstk,r5],hset⟩ (by simp only;omega) (mw [0,1,2,3,4] 0 (by rfl) (by simp[hPb,hPl,hPr,gY,wj,wk]))
  .have hjm:j=m:=by omega
   subst hjm;have hkm:k<=j:=by omega
   have hkR:k<=R.length:=by omega
   have hsub:(j:Int)-k=((j-k:Nat):Int):=by omega
   have e2:k*3+(j-k)*3=j*3:=by omega
   have hcells:List.take (k*3) (zY X)++((List.replicate (j-k) [A.lit (Value.int IntKind.i64 0),A.lit (Value.int IntKind.i64 0),A.lit (Value.int IntKind.i64 0)]).flatten++List.drop (k*3+(j-k)*3) (zY X))=zY ((R.take j).filter g++(cJ (j-((R.take j).filter g).length)++R.drop j)):=by
    rw[e2,u7,r5,qO,qO,nH,<-r4,<-r6]
    congr 2
    rw[zBC]
   simp -implicitDefEqProofs [r3];refine⟨by omega,by omega,by omega,?_⟩;rw[hcells];exact mv [0,1,2,3,4] 0 (by rfl) (by simp[hPb,hPl,hPr,r4])
end
theorem zJs(p:Prg)(x:Dfn)(r:Id):qG (reP p x).defs r=(qG p.defs r).map (reF x):=by
 unfold qG reP reD;rw[List.find?_map]
 congr 1
 refine congrArg (fun f=>List.find? f p.defs) (funext fun d=>?_);show decide ((reF x d).id=r)=decide (d.id=r);unfold reF;split
 .rename_i e;rw[e]
 .rfl
theorem zX8(x d:Dfn):(reF x d).id=d.id:=by
 unfold reF;split
 .rename_i e;exact e.symm
 .rfl
structure Rpl(p:Prg)(hs:List Hd)(x:Dfn):Prop where
 test:∀d∈p.defs,d.id=x.id->d.kind=4
 kind:x.kind=4
 slots:1<=x.slots.length/\x.slots.length<=6/\(x.slots.Pairwise fun a b=>a.id≠b.id)/\∀s∈x.slots,TyOk hs 4 s.typ
 body:WE p (cN x) x.body x.res
 nice:x.body.nice
 size:(tmps x.body).length<=33000
variable{x d:Dfn}
theorem zNi{l:wS}(h:d∈reD x l):d=x\/d∈l:=by
 obtain⟨a,ha,rfl⟩:=jA9.1 h;unfold reF;split
 .exact .inl rfl
 .exact .inr ha
variable{p:Prg}{hs:wQ}
theorem zZM(hf:Fit p hs)(hx:Rpl p hs x):Fit (reP p x) ((reP p x).defs.map Dfn.hd):=by
 have hnd:(reP p x).defs.Pairwise fun a b=>a.id≠b.id:=by refine jC.2 (hf.nd.imp fun {a b} h=>?_);rw[zX8,zX8];exact h
 have hk:∀d∈p.defs,d.kind≠4->reF x d=d:=fun d hd hk=>by
  unfold reF;split
  .rename_i e;exact(hk (hx.test d hd e)).elim
  .rfl
 have hT:∀{r:Nat} {u:Typ},TyOk hs r u->TyOk ((reP p x).defs.map Dfn.hd) r u:=fun hu=>by
  refine hu.sub (jC.2 (hnd.imp fun h=>h)) fun h hh hk'=>?_
  rw[<-hf.heads]at hh;obtain⟨d,hd,rfl⟩:=jA9.1 hh;have hk2:d.kind=0\/d.kind=1:=hk';refine jA9.2 ⟨reF x d,List.mem_map_of_mem hd,?_⟩;rw[hk d hd (by omega)]
 have hW:∀{env:wJ} {e:Exp} {u:Typ},WE p env e u->WE (reP p x) env e u:=fun h=>h.sub fun r d hd hk'=>by rw[zJs,hd,jBz,hk d (yD hd).1 (by omega)]
 refine⟨rfl,by rw[reP,zO9];exact hf.len8,hnd,fun d hd=>?_,fun d hd=>?_,fun r d hd hb=>?_⟩
 .rcases zNi hd with rfl|hd
  .obtain⟨s1,s2,s3,s4⟩:=hx.slots;exact⟨s1,s2,fun h=>by have:=hx.kind;omega,s3,fun s hs=>hT (s4 s hs)⟩
  .obtain⟨s1,s2,s3,s4,s5⟩:=hf.slots d hd;exact⟨s1,s2,s3,s4,fun s hs=>hT (s5 s hs)⟩
 .rcases zNi hd with rfl|hd
  .have:=hx.kind;omega
  .exact hf.kinds d hd
 .rw[zJs]at hd;obtain⟨d0,hd0,rfl⟩:=jAf.1 hd;by_cases e:d0.id=x.id
  .have e2:reF x d0=x:=by unfold reF;rw[if_pos e]
   rw[e2];exact hW hx.body
  .have e2:reF x d0=d0:=by unfold reF;rw[if_neg e]
   rw[e2]at hb ⊢;exact hW (hf.bods r d0 hd0 hb)
theorem zVC(h:FineP p)(hx:Rpl p hs x):FineP (reP p x):=by
 refine⟨by rw[reP,zO9];exact h.defs,h.mods,fun d hd=>?_,fun d hd=>?_,fun d hd=>?_⟩<;>rcases zNi hd with rfl|hd
 .exact⟨hx.slots.1,hx.slots.2.1⟩
 .exact h.slots d hd
 .exact hx.nice
 .exact h.nice d hd
 .exact hx.size
 .exact h.size d hd
mutual
def frI(i:Id):Exp->Prop
 | .mk j _ _ _ _ ks _=>j≠i/\frL i ks
def frL(i:Id):List Exp->Prop
 |[]=>True
 |e::l=>frI i e/\frL i l
end
theorem zAa(i:Id):∀l:wH,frL i l↔∀e∈l,frI i e
 |[]=>by simp[frL]
 |e::l=>by simp[frL,zAa i l]
def Ext(i:Id)(env env':wJ):Prop:=(∀x n t,fC env x n=some t->fC env' x n=some t)/\∀b∈env',b.id=i\/b∈env
variable{i:Id}{env:wJ}
theorem Ext.push{env':wJ}(h:Ext i env env')(b:Bnd):Ext i (env++[b]) (env'++[b]):=by
 refine⟨fun x n t hk=>?_,fun c hc=>?_⟩
 .rw[lQ]at hk ⊢;split
  .rename_i e;rw[if_pos e]at hk;exact hk
  .rename_i e;rw[if_neg e]at hk;exact h.1 x n t hk
 .rcases jA6.1 hc with hc|hc
  .rcases h.2 c hc with e|e
   .exact .inl e
   .exact .inr (jBr _ e)
  .exact .inr (List.mem_append_right _ hc)
theorem Ext.fr{j:Id}{env':wJ}(h:Ext i env env')(hj:j≠i)(hf:∀x∈env,x.id≠j):∀x∈env',x.id≠j:=fun x hx e=>by
 rcases h.2 x hx with e2|e2
 .exact hj (e▸e2)
 .exact hf x e2 e
theorem WE.ext{e:Exp}{u:Typ}(he:WE p env e u):frI i e->∀env',Ext i env env'->WE p env' e u:=by
 induction he with
 |int env j n r u ns h1 h2=>exact fun _ _ _=>.int _ _ _ _ _ _ h1 h2
 |bool env j n r u ns h=>exact fun _ _ _=>.bool _ _ _ _ _ _ h
 |var env j n r u ns t h=>exact fun _ _ hx=>.var _ _ _ _ _ _ _ (hx.1 _ _ _ h)
 |call env j n r u ks ns hn d hd hk hl hw ih =>
  intro hf env' hx;simp only[frI,zAa]at hf;exact .call _ _ _ _ _ _ _ hn d hd hk hl fun q hq=>ih q hq (hf.2 _ (jA0 hq)) env' hx
 |op env j n r u ks ns hn ts t ho hl hw ih =>
  intro hf env' hx;simp only[frI,zAa]at hf;exact .op _ _ _ _ _ _ _ hn ts t ho hl fun q hq=>ih q hq (hf.2 _ (jA0 hq)) env' hx
 |ite env j n r u a b c ns t ha hb hc iha ihb ihc =>
  intro hf env' hx;simp only[frI,frL]at hf;exact .ite _ _ _ _ _ _ _ _ _ _ (iha hf.2.1 env' hx) (ihb hf.2.2.1 env' hx) (ihc hf.2.2.2.1 env' hx)
 |lets env j n r u a b ns v t hfr ha hb iha ihb =>
  intro hf env' hx;simp only[frI,frL]at hf;exact .lets _ _ _ _ _ _ _ _ _ _ (hx.fr hf.1 hfr) (iha hf.2.1 env' hx) (ihb hf.2.2.1 _ (hx.push _))
 |record env j n r u ks ns hn d hd hk hl hw ih =>
  intro hf env' hx;simp only[frI,zAa]at hf;exact .record _ _ _ _ _ _ _ hn d hd hk hl fun q hq=>ih q hq (hf.2 _ (jA0 hq)) env' hx
 |field env j r u a ns d q hd hk hj ha ih =>
  intro hf env' hx;simp only[frI,frL]at hf;exact .field _ _ _ _ _ _ d q hd hk hj (ih hf.2.1 env' hx)
 |case env j r u a ns d q hd hk hj ha ih =>
  intro hf env' hx;simp only[frI,frL]at hf;exact .case _ _ _ _ _ _ d q hd hk hj (ih hf.2.1 env' hx)
 |mtch env j n r u a ks ns d t hfr hd hk hl ha hw iha ih =>
  intro hf env' hx;simp only[frI,frL,zAa]at hf;exact .mtch _ _ _ _ _ _ _ _ d t (hx.fr hf.1 hfr) hd hk hl (iha hf.2.1 env' hx) fun q hq=>ih q hq (hf.2.2 _ (jA0 hq)) _ (hx.push _)
 |list env j n r u ks ns t hn hw ih =>
  intro hf env' hx;simp only[frI,zAa]at hf;exact .list _ _ _ _ _ _ _ _ hn fun q hq=>ih q hq (hf.2 _ (jA0 hq)) env' hx
 |fold env j n r u l s b ns v t hfr hl hs hb ihl ihs ihb =>
  intro hf env' hx;simp only[frI,frL]at hf;exact .fold _ _ _ _ _ _ _ _ _ _ _ (hx.fr hf.1 hfr) (ihl hf.2.1 env' hx) (ihs hf.2.2.1 env' hx) (ihb hf.2.2.2.1 _ ((hx.push _).push _))
def zXc:Nat->Option wE:=fun|1=>k_ [0,0,0,0,0,0,0,3,0]|_=>none
variable{b:Prg}
theorem zJE{l r:Prg}{hb hl hr:wQ}(fb:Fit b hb)(fl:Fit l hl)(fr:Fit r hr)(nb:FineP b)(nl:FineP l)(nr:FineP r)(fuel:Int)(h0:0<=fuel)(hfu:fuel<=90000) :
 my 22 [.agg (zI b),.agg (zI l),.agg (zI r),int fuel] [] (.sl (zAE b l r fuel).length (zY (zAE b l r fuel))) []:=by
 have hPb:zI b=[.sl b.mods.length (qA b.mods),.sl b.defs.length (zQ b.defs)]:=rfl;have hPl:zI l=[.sl l.mods.length (qA l.mods),.sl l.defs.length (zQ l.defs)]:=rfl;have hPr:zI r=[.sl r.mods.length (qA r.mods),.sl r.defs.length (zQ r.defs)]:=rfl;have lb:=fb.len8;have ll:=fl.len8;have lr:=fr.len8;have tb:=zCy b (by omega);have tl:=zCy l (by omega);have tr:=zCy r (by omega);have nb':(cT b).length<=100:=by rw[cT,(fZ _).length_eq];have:=pY b.defs;change (tsD _).length<=_;omega
 have nl':(cT l).length<=100:=by rw[cT,(fZ _).length_eq];have:=pY l.defs;change (tsD _).length<=_;omega
 have nr':(cT r).length<=100:=by rw[cT,(fZ _).length_eq];have:=pY r.defs;change (tsD _).length<=_;omega
 have hdel:=fun R m h1 h2=>zU1 fb fl fr nb nl nr fuel h0 hfu R m h1 h2
 have hag:zAE b l r fuel=(yS (bQ iM (cT b++cT l++cT r))).filter (uK b l r fuel):=rfl;rw[hag];generalize uK b l r fuel=g at *
 generalize cT b=B at *
 generalize cT l=C at *
 generalize cT r=D at *
 have e1:[B,C,D].flatten=B++C++D:=by simp
 have htot:eI [B,C,D]=(B++C++D).length:=by rw[eI,e1]
 have hlen:(B++C++D).length<=1000000:=by simp only[jA4];omega
 have hcc:=zIG [B,C,D] (by rw[htot];exact hlen);rw[htot,e1]at hcc;generalize B++C++D=L at *
 have hso:=zL8 L (by omega);have hsl:(bQ iM L).length=L.length:=(fZ L).length_eq;have hco:=zKc (bQ iM L) (by omega);have hcl:=zCN (bQ iM L);rw[hsl]at hco hcl;generalize bQ iM L=S at *
 obtain⟨Z,hde⟩:=hdel (yS S++cJ (L.length-(yS S).length)) (yS S).length (by simp) (by simp[cJ];omega);have e2:(yS S++cJ (L.length-(yS S).length)).length=L.length:=by simp[cJ];omega
 rw[e2,List.take_left]at hde;generalize yS S=Y at *
 unfold sI gY at hde;refine mn zXc [] [.slot 8] func22 (by kernel_rfl) ?_
 (conv in zV _ _ _ _=>cbv)
 simp -implicitDefEqProofs [hPb,hPl,hPr];refine qC tb (by simp[hPb]) (by simp) ?_;simp -implicitDefEqProofs;refine qC tl (by simp[hPl]) (by simp) ?_;simp -implicitDefEqProofs;refine qC tr (by simp[hPr]) (by simp) ?_;simp -implicitDefEqProofs;refine zE3 hcc (by simp[bX]) ?_;simp -implicitDefEqProofs;refine mr hso [4] (by simp) ?_;simp -implicitDefEqProofs;refine mr hco [4] (by simp) ?_;simp -implicitDefEqProofs;refine mr hde [0,1,2,3,4] (by simp[hPb,hPl,hPr]) ?_;simp -implicitDefEqProofs;by_cases hy:Y.filter g=[]
 .exact zB 1 (by simp[hy])
 .have h0:(Y.filter g).length≠0:=fun e=>hy (jBx e)
  exact zB 1 (by simp[h0,qO])
section
variable{f:Int->Id}{i0:Id}
mutual
theorem zOi:∀e:Exp,(∀c∈tmps e,f c≠i0)->frI i0 (eB f e)
 | .mk j k n r t ks ns,h=>by simp only[eB,frI];exact⟨h j.c (by simp[tmps]),zOj ks fun c hc=>h c (by simp[tmps,hc])⟩
theorem zOj:∀l:wH,(∀c∈jJ l,f c≠i0)->frL i0 (oV f l)
 |[],_=>by simp only[oV,frL]
 |e::l,h=>by simp only[oV,frL];exact⟨zOi e fun c hc=>h c (by simp[jJ,hc]),zOj l fun c hc=>h c (by simp[jJ,hc])⟩
end
end
def qCG(p:Prg)(hs:wQ):Prop:=∀(k:Nat) (h:k<hs.length),∃d,p.defs[k]?=some d/\qG p.defs hs[k].id=some d
theorem Fit.ix(h:Fit p hs):qCG p hs:=fun k hk=>by
 have hk':k<p.defs.length:=by rw[<-h.heads]at hk;simpa using hk
 have e:hs[k]=p.defs[k].hd:=by simp[<-h.heads]
 refine⟨p.defs[k],jA2 hk',?_⟩;rw[e];exact pN h.nd hk'
section
variable{p:Prg}{hs:wQ}{m:Nat}{f:Int->Id}
theorem zOX{P:Exp->Prop}{a b:Exp}(h1:P a)(h2:P b):∀e∈[a,b],P e:=by simp[h1,h2]
theorem b6{i:Id}{k n:Int}{r:Id}{u:Typ}{ks:wH}{ns:List ByteArray}(hk:k=3->∃(j:Nat)(d:Dfn),j<m/\p.defs[j]?=some d/\qG p.defs r=some d)
 (hl:(tmps (.mk i k n r u ks ns)).length<=32768)(h:∀e∈ks,(tmps e).length<=32768->zCb p m (eB f e)):zCb p m (eB f (.mk i k n r u ks ns)):=by
 simp only[tmps,jA4]at hl;have h1:=zDz ks;simp only[eB,oF,zCb,zCc];refine⟨fun h3=>?_,by rw[jAb];omega,fun e he=>?_⟩
 .rw[if_neg (by omega)];exact hk h3
 .obtain⟨a,ha,rfl⟩:=jA9.1 he;have:=(zCz ha).length_le;exact h a ha (by omega)
theorem zZz(hx:qCG p hs){own:Int}(ho:own<=m){env:wJ}{e:Exp}{t:Typ}(h:WT hs own env e t):(tmps e).length<=32768->zCb p m (eB f e):=by
 induction h with
 |int env i n h1 h2=>exact fun hl=>b6 (by omega) hl (by simp)
 |bool env i n h=>exact fun hl=>b6 (by omega) hl (by simp)
 |var env i n x t h=>exact fun hl=>b6 (by omega) hl (by simp)
 |call env i k h ks hk' hk hl hw ih =>
  intro hn;refine b6 (fun _=>?_) hn fun e he=>?_
  .obtain⟨d,hd,hf⟩:=hx k h;exact⟨k,d,by omega,hd,hf⟩
  .obtain⟨j,hj,rfl⟩:=jAe he;exact ih j hj
 |arith env i n a b h1 h2 ha hb iha ihb=>exact fun hl=>b6 (by omega) hl (zOX iha ihb)
 |less env i a b ha hb iha ihb=>exact fun hl=>b6 (by omega) hl (zOX iha ihb)
 |same env i a b u ha hb iha ihb=>exact fun hl=>b6 (by omega) hl (zOX iha ihb)
 |andor env i n a b h ha hb iha ihb=>exact fun hl=>b6 (by omega) hl (zOX iha ihb)
 |not env i a ha iha=>exact fun hl=>b6 (by omega) hl fun e he=>by rw[jAi.1 he];exact iha
 |join env i a b t ha hb iha ihb=>exact fun hl=>b6 (by omega) hl (zOX iha ihb)
 |len env i a t ha iha=>exact fun hl=>b6 (by omega) hl fun e he=>by rw[jAi.1 he];exact iha
 |ite env i a b c t ha hb hc iha ihb ihc =>
  refine fun hl=>b6 (by omega) hl fun e he=>?_
  rcases jA1.1 he with rfl|he
  .exact iha
  .rcases jA1.1 he with rfl|he
   .exact ihb
   .rw[jAi.1 he];exact ihc
 |lets env i a b u t ns hn ha hb iha ihb=>exact fun hl=>b6 (by omega) hl (zOX iha ihb)
 |record env i k h ks hk hl hw ih=>exact fun hn=>b6 (by omega) hn fun e he=>by obtain⟨j,hj,rfl⟩:=jAe he;exact ih j hj
 |field env i k h j hj a hk ha iha=>exact fun hl=>b6 (by omega) hl fun e he=>by rw[jAi.1 he];exact iha
 |case env i k h j hj a hk ha iha=>exact fun hl=>b6 (by omega) hl fun e he=>by rw[jAi.1 he];exact iha
 |mtch env i k h a ks t ns hn hk hl ha hw iha ih =>
  refine fun hl=>b6 (by omega) hl fun e he=>?_
  rcases jA1.1 he with rfl|he
  .exact iha
  .obtain⟨j,hj,rfl⟩:=jAe he;exact ih j hj
 |list env i t ks hw ih=>exact fun hn=>b6 (by omega) hn fun e he=>by obtain⟨j,hj,rfl⟩:=jAe he;exact ih j hj
 |fold env i l s b u t ns hn hl hs' hb ihl ihs ihb =>
  refine fun hl=>b6 (by omega) hl fun e he=>?_
  rcases jA1.1 he with rfl|he
  .exact ihl
  .rcases jA1.1 he with rfl|he
   .exact ihs
   .rw[jAi.1 he];exact ihb
end
section
variable{l:wC}(hl:∀x∈l,w64 x=x){P:Prg}(hP:PrgOk l P)
include hl hP
theorem PrgOk.low{i0:Id}(hi:i0.a≠0):∀(k:Nat) (d:Dfn),P.defs[k]?=some d->zCb P k d.body/\frI i0 d.body/\(tmps d.body).length<=32768:=by
 intro k d hd;obtain⟨base,_,hb⟩:=hP.bodies;rcases hb k d hd with ⟨_,h2,_⟩|⟨_,e,f,hr,_⟩
 .rw[h2];refine⟨zZy (by omega) (by simp) (by simp),?_,by simp[tmps,jJ,Exp.zero]⟩;simp only[Exp.zero,frI,frL,and_true];intro h;rw[<-h]at hi;exact hi rfl
 .rw[hr.body];have hlen:=hr.len;refine⟨zZz (hP.fit hl).ix (jCg _) hr.wt hlen,zOi e fun c hc h=>?_,?_⟩
  .obtain⟨j,hj,rfl⟩:=jAe hc;rw[hr.ids j hj]at h;rw[<-h]at hi;exact hi rfl
  .rw[(zGl f e (zOT hr.wt)).2];exact hlen
theorem PrgOk.acy:Acy P:=fun k d hd=>(hP.low hl (i0:=⟨1,0,0⟩) (by decide) k d hd).1
omit hl in
theorem PrgOk.slotIds:∀d∈P.defs,∀s∈d.slots,s.id.a=0:=by intro d hd s hs;have hm:d.hd∈P.defs.map Dfn.hd:=List.mem_map_of_mem hd;rw[hP.heads,hsV]at hm;obtain⟨k,hk,hke⟩:=jAe hm;rw[zK3]at hk;rw[mR _ _ hk]at hke;have h1:d.slots=dO _ _:=(congrArg Hd.slots hke).symm;rw[h1]at hs;obtain⟨j,_,rfl⟩:=jA9.1 hs;rfl
end
theorem zMM(n:Int):my 51 [int n] [] (.agg [int 0,int 1,int n]) []:=by
 refine mq [] [.cell 2 3 true] func51 (by kernel_rfl) ?_
 (conv in kq _ _=>cbv)
 simp -implicitDefEqProofs;exact zB 0 (by simp)
section
variable{U:St}{d:wD}{env:Env}{K':wK}{Qp:Value->wK}{KD:Env->Prop}
theorem kI0{n:Int}(hq:K' (env.put d (.agg [int 0,int 1,int n])) U):aK prog 51 [int n] U (Go.Abs.outK d env K' Qp):=mu (zMM n) (by simp) hq
theorem kI1{n:Int}(hq:KD (env.put d (.agg [int 0,int 1,int n]))):zC3 prog U d KD 51 [int n] env:=qC (zMM n) (by simp) (by simp) hq
theorem kIF{n:Int}(hq:KD (env.put d (.agg [int 0,int 1,int n]))):xP prog U d KD 51 [int n] env:=aI (zMM n) (by simp) (by simp) hq
end
theorem zE5(n r:Int):my 50 [int n,int r] [] (.agg (zI (exT n r))) []:=by
 refine mq [(2,[0,1,3]),(3,[0,1,2,5]),(4,[0,1,4]),(6,[0,1,4])] [.cell 4 2 true] func50 (by kernel_rfl) ?_
 (conv in kq _ _=>cbv)
 repeat (first|refine kI0 ?_|refine kI1 ?_|refine kIF ?_|simp -implicitDefEqProofs|refine⟨by simp[maxLen],?_⟩)
 exact zB 1 (by simp[zI,exT,uQ,vM,zSm,zDM,zL,aF,jM,yJ,zG,zJ,qA,zS,zY,mM,zQ,kD,Typ.zero,Id.zero,Exp.zero])
theorem zP1(n r:Int):∀d∈(exT n r).defs,NmD d:=by
 intro d hd;simp only[exT,jA1,jAr,or_false]at hd;rcases hd with rfl|rfl
 .exact⟨Nat.le_of_ble_eq_true rfl,fun s hs=>by simp only[uQ,jA1,jAr,or_false]at hs;subst hs;exact Nat.le_of_ble_eq_true rfl⟩
 .exact⟨Nat.le_of_ble_eq_true rfl,fun s hs=>by simp only[vM,jA1,jAr,or_false]at hs;subst hs;exact Nat.le_of_ble_eq_true rfl⟩
theorem zVn:my 20 [.agg (zI (exT 7 5)),.agg (zI (exT 7 6)),.agg (zI (bP (exT 7 5))),.agg (zS (kD 1)),int 50] [] (.tup [.agg [bl false,bl false],int 0]) []:=by have h:=zD0 (gG (n:=7) (r:=5) (by omega) (by omega)) (gG (n:=7) (r:=6) (by omega) (by omega)) (zAm (gG (n:=7) (r:=5) (by omega) (by omega))) (cD 7 5) (cD 7 6) (tW (cD 7 5)) (kD 1) 50 (by omega) (by omega);rw[zUJ]at h;exact h
theorem zVo:my 20 [.agg (zI (exT 7 5)),.agg (zI (exT 8 5)),.agg (zI (bP (exT 7 5))),.agg (zS (kD 1)),int 50] [] (.tup [.agg [bl true,bl false],int 0]) []:=by have h:=zD0 (gG (n:=7) (r:=5) (by omega) (by omega)) (gG (n:=8) (r:=5) (by omega) (by omega)) (zAm (gG (n:=7) (r:=5) (by omega) (by omega))) (cD 7 5) (cD 8 5) (tW (cD 7 5)) (kD 1) 50 (by omega) (by omega);rw[zOc]at h;exact h
theorem zVp:my 20 [.agg (zI (exT 7 5)),.agg (zI (exT 7 5)),.agg (zI (exT 7 5)),.agg (zS (kD 2)),int 50] [] (.tup [.agg [bl false,bl false],int 6]) []:=by have f:=gG (n:=7) (r:=5) (by omega) (by omega);have h:=zD0 f f f (cD 7 5) (cD 7 5) (cD 7 5) (kD 2) 50 (by omega) (by omega);rw[zUL]at h;exact h
theorem zVl:my 22 [.agg (zI (exT 7 5)),.agg (zI (exT 8 5)),.agg (zI (bP (exT 7 5))),int 50] [] (.sl 0 []) []:=by have h:=zJE (gG (n:=7) (r:=5) (by omega) (by omega)) (gG (n:=8) (r:=5) (by omega) (by omega)) (zAm (gG (n:=7) (r:=5) (by omega) (by omega))) (cD 7 5) (cD 8 5) (tW (cD 7 5)) 50 (by omega) (by omega);rw[zUH]at h;exact h
theorem zVm:my 22 [.agg (zI (exT 7 5)),.agg (zI (exT 8 5)),.agg (zI (exT 9 5)),int 50] [] (.sl 1 [int 0,int 1,int 1]) []:=by have h:=zJE (gG (n:=7) (r:=5) (by omega) (by omega)) (gG (n:=8) (r:=5) (by omega) (by omega)) (gG (n:=9) (r:=5) (by omega) (by omega)) (cD 7 5) (cD 8 5) (cD 9 5) 50 (by omega) (by omega);rw[zUI]at h;exact h
theorem zVq:my 13 [.agg (zI (exT 7 5))] [] (.sl 1 [int 0,int 1,int 1]) []:=by have h:=zCy (exT 7 5) (by simp[exT]);rw[nZ]at h;exact h
theorem zBf:my 18 [] [] (bl true) []:=by
 have x0:=zE5 7 5;have x1:=zE5 7 6;have x2:=zE5 8 5;have x3:=zE5 9 5;have xr:=zOE (exT 7 5) (by simp[exT]) (by simp[exT,uQ,vM]) (zP1 7 5);have o1:=zVn;have o2:=zVo;have o4:=zVp;have g1:=zVl;have g2:=zVm;have ts:=zVq;have ss:=zQy [kD 1] [kD 1];rw[decide_eq_true rfl]at ss;have hP:∀p:Prg,zI p=[.sl p.mods.length (qA p.mods),.sl p.defs.length (zQ p.defs)]:=fun _=>rfl
 generalize exT 7 5=P0 at *
 generalize exT 7 6=P1 at *
 generalize exT 8 5=P2 at *
 generalize exT 9 5=P3 at *
 generalize bP P0=R0 at *
 refine mq [(3,[0,1,2,3,4]),(4,[0,1,2,3,4]),(5,[0,1,2,3,4])] [.slot 0] func18 (by kernel_rfl) ?_
 (conv in kq _ _=>cbv)
 simp -implicitDefEqProofs;refine mu x0 (by simp[hP]) ?_;simp -implicitDefEqProofs [hP];refine mu xr (by simp[hP]) ?_;simp -implicitDefEqProofs [hP];refine aI x1 (by simp) (by simp[hP]) ?_;simp -implicitDefEqProofs [hP];refine kIF ?_;simp -implicitDefEqProofs [hP];refine aI o1 (by simp[hP,zS,kD]) (by simp) ?_;simp -implicitDefEqProofs [hP];refine aI x2 (by simp) (by simp[hP]) ?_;simp -implicitDefEqProofs [hP];refine kIF ?_;simp -implicitDefEqProofs [hP];refine aI o2 (by simp[hP,zS,kD]) (by simp) ?_;simp -implicitDefEqProofs [hP];refine kIF ?_;simp -implicitDefEqProofs [hP];refine aI o4 (by simp[hP,zS,kD]) (by simp) ?_;simp -implicitDefEqProofs [hP];refine qC x2 (by simp) (by simp[hP]) ?_;simp -implicitDefEqProofs [hP];refine qC g1 (by simp[hP]) (by simp) ?_;simp -implicitDefEqProofs [hP];refine qC x2 (by simp) (by simp[hP]) ?_;simp -implicitDefEqProofs [hP];refine qC x3 (by simp) (by simp[hP]) ?_;simp -implicitDefEqProofs [hP];refine qC g2 (by simp[hP]) (by simp) ?_;simp -implicitDefEqProofs [hP]
 intros
 refine kI0 ?_;simp -implicitDefEqProofs [hP];refine mu ss (by simp[zY,kD]) ?_;simp -implicitDefEqProofs [hP];refine mu ts (by simp[hP]) ?_;simp -implicitDefEqProofs [hP];refine mu ss (by simp[zY,kD]) ?_;simp -implicitDefEqProofs;exact zB 0 (by simp)
def Slt.wm(s:Slt)(m:Int):Slt:={s with most:=m}
def Dfn.ws(d:Dfn)(S:List Slt):Dfn:={d with slots:=S}
variable{l:List Slt}
theorem zL3{β:Type}{g:Slt->β}{k:Nat}(hk:k<l.length){s:Slt}(h:g s=g l[k]):(l.set k s).map g=l.map g:=by
 rw[List.map_set,h];have:g l[k]=(l.map g)[k]'(by simpa using hk):=by simp
 rw[this,List.set_getElem_self]
theorem zRx{k:Nat}(hk:k<l.length){s:Slt}(h:gU l[k] s=false):bM gU l (l.set k s)=false:=by
 induction l generalizing k with
 |nil=>simp at hk
 |cons a l ih =>
  cases k with
  |zero=>simp only[List.set_cons_zero,bM];simp only[jD7]at h;rw[h];rfl
  |succ k =>
   simp only[List.set_cons_succ,bM];rw[ih (by simpa using hk) (by simpa using h),Bool.and_false]
def zGa(e:Exp):Exp:=.mk ⟨6,6,6⟩ 6 0 .zero .zero [.mk ⟨6,6,7⟩ 0 0 .zero .zero [] [],e] [⟨#[113]⟩]
section
variable{l:wC}(hl:∀x∈l,w64 x=x){P:Prg}(hP:PrgOk l P){d:Dfn}(hd:d∈P.defs)(hk:d.kind=4)
include hl hP hd hk
theorem PrgOk.tsts:∀a∈P.defs,a.id=d.id->a.kind=4:=by intro a ha e;have hnd:=(hP.fit hl).nd;obtain⟨i,hi,rfl⟩:=jAe ha;obtain⟨j,hj,rfl⟩:=jAe hd;have h1:=pN hnd hi;have h2:=pN hnd hj;rw[e,h2]at h1;rw[<-jAy h1];exact hk
theorem PrgOk.testD:testD P d.id=some d:=by obtain⟨j,hj,rfl⟩:=jAe hd;unfold Proofs.YtolkhapmieigcaaGreatDoor.testD;rw[pN (hP.fit hl).nd hj];simp[Option.filter,hk]
theorem PrgOk.rplM{k:Nat}(hks:k<d.slots.length)(m:Int):Rpl P (hsV l (nmV l)) (d.ws (d.slots.set k (d.slots[k].wm m))):=by
 have hf:=hP.fit hl;obtain⟨s1,s2,_,s4,s5⟩:=hf.slots d hd;obtain⟨j,hj⟩:=List.mem_iff_getElem?.1 hd;have htst:∀a∈P.defs,a.id=d.id->a.kind=4:=hP.tsts hl hd hk;refine⟨htst,hk,⟨by simpa[Dfn.ws]using s1,by simpa[Dfn.ws]using s2,?_,fun s hs=>?_⟩,?_,?_,?_⟩
 .have h1:(d.slots.map Slt.id).Pairwise fun a b=>a≠b:=jC.2 s4
  rw[<-zL3 (g:=Slt.id) hks (s:=d.slots[k].wm m) rfl]at h1;exact jC.1 h1
 .rcases List.mem_or_eq_of_mem_set hs with hs|rfl
  .exact s5 s hs
  .exact(s5 d.slots[k] (jA0 hks) :)
 .have h1:cN (d.ws (d.slots.set k (d.slots[k].wm m)))=cN d:=zL3 hks rfl;have hfd:qG P.defs d.id=some d:=(bT (hP.testD hl hd hk)).1;rw[h1];exact hf.bods d.id d hfd (by simp[dG,hk])
 .exact(hP.fine hl).1.nice d hd
 .exact(hP.fine hl).1.size d hd
theorem PrgOk.rplB:Rpl P (hsV l (nmV l)) (d.wb (zGa d.body)):=by
 have hf:=hP.fit hl;obtain⟨s1,s2,_,s4,s5⟩:=hf.slots d hd;obtain⟨j,hj⟩:=List.mem_iff_getElem?.1 hd;obtain⟨_,hfr,hlen⟩:=hP.low hl (i0:=⟨6,6,6⟩) (by decide) j d hj;have hfd:qG P.defs d.id=some d:=(bT (hP.testD hl hd hk)).1;have hne:∀x∈cN d,x.id≠⟨6,6,6⟩:=fun x hx e=>by obtain⟨s,hs,rfl⟩:=jA9.1 hx;have h0:=hP.slotIds d hd s hs;have h6:=congrArg Id.a e;simp only[h0]at h6;exact absurd h6 (by decide)
 have htst:∀a∈P.defs,a.id=d.id->a.kind=4:=hP.tsts hl hd hk;refine⟨htst,hk,⟨s1,s2,s4,s5⟩,?_,?_,?_⟩
 .refine .lets _ _ _ _ _ _ _ _ jT _ hne (.int _ _ _ _ _ _ (by decide) (by decide)) ((hf.bods d.id d hfd (by simp[dG,hk])).ext hfr _ ⟨fun x n t h=>?_,fun b hb=>?_⟩)
  .rw[zU8,lQ];split
   .rename_i e;exfalso;unfold fC at h;rw[jAf]at h;obtain⟨b,hb,_⟩:=h;have h1:=jD6 hb;rw[jA8]at h1;have h2:b.id=x:=of_decide_eq_true h1.1;exact hne b (List.mem_reverse.1 (jCy hb)) (h2.trans e.1.symm)
   .exact h
  .rcases jA6.1 hb with hb|hb
   .exact .inr hb
   .rw[jAi.1 hb];exact .inl rfl
 .have:=(hP.fine hl).1.nice d hd;simp[Dfn.wb,zGa,Exp.nice,bO,this]
 .simp only[Dfn.wb,zGa,tmps,jJ,jA4,jAc,jB4,jAt,jBk];omega
omit hl hP hd hk in
theorem qNV{k:Nat}(hks:k<d.slots.length){m:Int}(hm:m≠d.slots[k].most):yQ d (d.ws (d.slots.set k (d.slots[k].wm m)))=false:=by
 have h1:gU d.slots[k] (d.slots[k].wm m)=false:=by unfold gU;simp[Slt.wm,Ne.symm hm]
 simp[yQ,Dfn.ws,zRx hks h1]
theorem PrgOk.ownB:yQ d (d.wb (zGa d.body))=false:=by
 obtain⟨j,hj⟩:=List.mem_iff_getElem?.1 hd;obtain⟨_,hfr,_⟩:=hP.low hl (i0:=⟨6,6,6⟩) (by decide) j d hj;have:d.body.id≠⟨6,6,6⟩:=by cases hb:d.body;rw[hb]at hfr;simp only[frI]at hfr;exact hfr.1
 have h2:decide (d.body.id=(zGa d.body).id)=false:=decide_eq_false this;unfold yQ;rw[show (d.wb (zGa d.body)).body=zGa d.body from rfl,h2];simp[hk,dU]
structure Own(P q:Prg)(t:Id):Prop where
 fit:∃hs,Fit q hs
 fine:FineP q
 own:(ofT P q P t 5000).2=0->(ofT P q P t 5000).1=(true,false)
omit hl hP hd hk in
theorem zO4{hs:wQ}(hf:Fit P hs)(hfi:FineP P){x:Dfn}(hx:Rpl P hs x)(hi:x.id=d.id)(ht:Proofs.YtolkhapmieigcaaGreatDoor.testD P d.id=some d)(hs:yQ d x=false):Own P (reP P x) d.id:=by
 refine⟨⟨_,zZM hf hx⟩,zVC hfi hx,zTc hf ht (fun d' hd'=>?_) (zHw _)⟩;rw[zJs,(bT ht).1,jBz]at hd';have:reF x d=x:=by unfold reF;rw[if_pos hi.symm]
 rw[this]at hd';cases hd';exact hs
theorem PrgOk.own_wo:Own P (woP P d.id) d.id:=by have h:=(hP.snd hl).wo (m:=4) (hP.tsts hl hd hk);exact⟨h.fit,h.fine,zTc (hP.fit hl) (hP.testD hl hd hk) (fun d' hd'=>by rw[xO]at hd';cases hd') (zHw _)⟩
theorem PrgOk.own_most{k:Nat}(hks:k<d.slots.length){m:Int}(hm:m≠d.slots[k].most):Own P (reP P (d.ws (d.slots.set k (d.slots[k].wm m)))) d.id :=
 zO4 (hP.fit hl) (hP.fine hl).1 (hP.rplM hl hd hk hks m) rfl (hP.testD hl hd hk) (qNV hks hm)
theorem PrgOk.own_body:Own P (reP P (d.wb (zGa d.body))) d.id :=
 zO4 (hP.fit hl) (hP.fine hl).1 (hP.rplB hl hd hk) rfl (hP.testD hl hd hk) (hP.ownB hl hd hk)
end
def zQS:K:=(G [kMi 26 0] (K.block 2 (K.loop (Z (G [M 129 26,M 130 19,kN 131 130,kB 132 129 131 .lss] (Y 132 ks (K.exit 2))) (Z (K.block 3 (Z (K.dops [(0,1,J 136 9 2),(1,1,J 137 12 3),(2,0,M 138 19),(3,0,M 139 26),(4,1,kX 140 138 139 1),(5,1,L 141 140 1),(6,1,kC 142 32 [(kt 136),(kt 137),(kt 141),(kc 5000)]),(7,0,M 135 142),(8,0,kE 143 135 0),(9,0,kE 144 135 1),(10,0,kE 145 135 2),(11,0,kZ 27 [ki,ki,kl]),(12,0,S 27 143 3),(13,0,M 28 144),(14,0,M 29 145)]) (Z (K.dops [(0,0,M 147 15),(1,0,M 148 21),(2,1,kX 149 147 148 2),(3,1,J 150 149 2),(4,1,J 151 12 3),(5,0,M 152 24),(6,0,M 153 26),(7,1,kX 154 152 153 1),(8,1,L 155 154 1),(9,1,kC 156 32 [(kt 150),(kt 151),(kt 155),(kc 5000)]),(10,0,M 146 156),(11,0,kE 157 146 0),(12,0,kE 158 146 1),(13,0,kE 159 146 2),(14,0,kZ 30 [ki,ki,kl]),(15,0,S 30 157 3),(16,0,M 31 158),(17,0,M 32 159)]) (Z (Z (K.dops [(0,0,M 160 29),(1,0,M 161 32),(2,0,kQ 162 160 161 true),(3,0,M 163 162),(4,0,T 163 false (M 164 28)),(5,0,T 163 false (M 165 31)),(6,0,T 163 false (kQ 166 164 165 true)),(7,0,kPt 167 163 166),(8,0,M 168 167),(9,0,T 168 false (J 169 27 3)),(10,0,T 168 false (J 170 30 3)),(11,0,T 168 false (kC 171 33 [(kt 169),(kt 170)])),(12,0,T 168 false (kQi 172 171 0 true)),(13,0,kPt 173 168 172),(14,0,M 174 173),(15,0,T 174 false (M 175 19)),(16,0,T 174 false (M 176 26)),(17,0,T 174 false (kX 177 175 176 1)),(18,0,T 174 false (L 178 177 1)),(19,0,T 174 false (kN 179 178)),(20,0,T 174 false (M 180 24)),(21,0,T 174 false (M 181 26)),(22,0,
 T 174 false (kX 182 180 181 1)),(23,0,T 174 false (L 183 182 1)),(24,0,T 174 false (kN 184 183)),(25,0,T 174 false (kQ 185 179 184 true)),(26,0,kPt 186 174 185)]) (Y 186 (G [kMb 8 false] kr) ks)) (G [kMi 33 0] (K.block 4 (K.loop (Z (G [M 187 33,M 188 19,M 189 26,kX 190 188 189 1,L 191 190 1,kN 192 191,kB 193 187 192 .lss] (Y 193 ks (K.exit 4))) (Z (K.block 5 (Z (K.dops [(0,0,M 196 19),(1,0,M 197 26),(2,0,kX 198 196 197 1),(3,0,L 199 198 1),(4,0,M 200 33),(5,0,kX 201 199 200 3),(6,0,J 202 201 3),(7,0,M 203 24),(8,0,M 204 26),(9,0,kX 205 203 204 1),(10,0,L 206 205 1),(11,0,M 207 33),(12,0,kX 208 206 207 3),(13,0,J 209 208 3),(14,0,kC 210 33 [(kt 202),(kt 209)]),(15,0,kQi 211 210 0 true)]) (Y 211 (G [kMb 8 false] kr) ks))) (K.ops [M 194 33,kBi 195 194 1 .add,M 33 195])))))))))) (K.ops [M 133 26,kBi 134 133 1 .add,M 26 134]))))))
def qDi:K:=G [kMb 8 false] (G [M 35 0,M 36 1,M 37 2,M 38 3,kC 39 19 [(kt 35),(kt 36),(kt 37),(kt 38)],M 34 39,kE 40 34 0,kE 41 34 1,kE 42 34 2,kE 43 34 3,kZ 9 [kl,kl],kZ 10 [kl,kl],kZ 11 [kl,kl],kZ 12 [ki,ki,ki],S 9 40 2,S 10 41 2,S 11 42 2,S 12 43 3] (G [J 45 9 2,J 46 10 2,J 47 11 2,J 48 12 3,kC 49 20 [(kt 45),(kt 46),(kt 47),(kt 48),(kc 5000)],M 44 49,kE 50 44 0,kE 51 44 1,kZ 13 [(.bool false),(.bool false)],S 13 50 2,M 14 51] (Z (G [M 52 14,kQi 53 52 0 true,M 54 53,T 54 false (J 55 9 2),T 54 false (J 56 12 3),T 54 false (kC 57 30 [(kt 55),(kt 56)]),T 54 false (kR 58 57),kPt 59 54 58] (Y 59 (G [kC 60 18 [],M 8 60] kr) ks)) (G [J 61 10 2,J 62 11 2,kd 63 26 2 2 [kl,kl,kl,kl] [(0,2,(kt 61)),(2,2,(kt 62))],M 15 63] (G [D 64 13 0,L 65 64 1,D 66 13 1,L 67 66 1,kd 68 4 1 2 [(.bool false),(.bool false)] [(0,1,(kt 65)),(1,1,(kt 67))],M 16 68] (G [J 70 9 2,J 71 12 3,kC 72 26 [(kt 70),(kt 71)],M 69 72,kE 73 69 0,kE 74 69 1,kZ 17 kz0,S 17 73 31,M 18 74] (G [J 76 9 2,D 77 17 8,L 78 77 1,kC 79 31 [(kt 76),(kt 78)],M 75 79,kE 80 75 0,kE 81 75 1,M 19 80,M 20 81] (Z (G [M 82 20,kQi 83 82 0 true] (Y 83 (G [kMb 8 false] kr) ks)) (Z (G [kMi 21 0] (K.block 0 (K.loop (Z (G [M 84 21,kBi 85 84 2 .lss] (Y 85 ks (K.exit 0))) (Z (K.block 1 (Z (G [M 88 16,M 89 21,kX 90 88 89 1,L 91 90 1] (Y 91 (K.exit 1) ks)) (Z (K.dops [(0,0,M 93 15),(1,0,M 94 21),(2,1,kX 95 93 94 2),(3,1,J 96 95 2),(4,1,J 97 12 3),(5,1,kC 98 26 [(kt 96),(kt 97)]),(6,0,M 92 98),(7,0,kE 99 92 0),(8,0,kE 100 92 1),(9,0,kZ 22 kz0),(10,0,
 S 22 99 31),(11,0,M 23 100)]) (Z (K.dops [(0,0,M 102 15),(1,0,M 103 21),(2,0,kX 104 102 103 2),(3,0,J 105 104 2),(4,0,D 106 22 8),(5,0,L 107 106 1),(6,0,kC 108 31 [(kt 105),(kt 107)]),(7,0,M 101 108),(8,0,kE 109 101 0),(9,0,kE 110 101 1),(10,0,M 24 109),(11,0,M 25 110)]) (Z (G [M 111 23,kR 112 111,M 113 112,T 113 false (D 114 22 3),T 113 false (L 115 114 1),T 113 false (kQi 116 115 4 true),kPt 117 113 116,M 118 117,T 118 false (M 119 25),T 118 false (kQi 120 119 0 true),kPt 121 118 120,M 122 121,T 122 false (M 123 24),T 122 false (kN 124 123),T 122 false (M 125 19),T 122 false (kN 126 125),T 122 false (kQ 127 124 126 true),kPt 128 122 127] (Y 128 (G [kMb 8 false] kr) ks)) (K.wk zQS)))))) (K.wk (K.ops [M 86 21,kBi 87 86 1 .add,M 21 87]))))))) (G [kC 212 18 [],M 8 212] kr))))))))))
theorem qLt:ky f9 qDi:=m_ (by kernel_rfl)
def zRs(b q:Prg)(t:Id):Prop:=zC8 b q\/qG q.defs t=none
theorem zGA{q:Prg}(hf:Fit b hs)(hp:NdN b){t:Id}(hq:zRs b q t){f:Int}(hd:testD b t=some d)(h:(yF b t f).2=0)(ha:fV (yF b t f).1 (oJ b q)=false) :
 ∃d',testD q t=some d'/\qG q.defs t=some d'/\jW q d'.slots=jW b d.slots/\∀v∈(jW b d.slots).1,bF q t v f=bF b t v f:=by
 rcases hq with hq|hq
 .exact zQC hf hp hq hd h ha
 .obtain⟨d',_,h2,_⟩:=zAB hf hd h ha;rw[hq]at h2;cases h2
def unE(PL:List Prg)(xl xr:Bool)(X:List wI)(i:Nat):List (Nat×A):=[(9,.ptr 0 0),(12,.ptr 1 0),(15,.sl 2 (aG PL)),(16,.sl 2 [bl xl,bl xr]),(19,.sl X.length (jG X)),(21,int i)]
theorem qHF{q:Prg}{hb hq:wQ}(fb:Fit b hb)(fq:Fit q hq)(t:Id)(X:List wI)(hXl:X.length<=4096)(hXs:∀x∈X,∀v∈x,qY v<=256/\eW v<=24)(hX6:∀x∈X,x.length<=100)(PL:List Prg)(h2:PL.length=2)(xl xr:Bool)(i:Nat)(hi:i<PL.length)(hqi:PL[i]=q)
 (hc:∀v∈X,∃(y:Val)(n e:Int),bF b t v 5000=.tup [.agg (zN y),int n,int e]/\bF q t v 5000=bF b t v 5000)(Q:Ex->wK)
 (hQ:∀E S,fU 0 (jO (unE PL xl xr X i)) [.box (zI b),.box (zS t)] E S->Q .norm E S) :
 wpK prog 0 zQS Q (jO (unE PL xl xr X i++[(24,.sl X.length (jG X))])) [.box (zI b),.box (zS t)]:=by
 have hE:∀q:Prg,zI q=[.sl q.mods.length (qA q.mods),.sl q.defs.length (zQ q.defs)]:=fun _=>rfl
 have hi2:i<2:=by omega
 have hiI:(i:Int)<2:=by omega
 have hi4:i*2<4:=by omega
 have hpd:=zDL hi;rw[hqi]at hpd;have hPn:¬PL=[]:=fun e=>by rw[e]at h2;simp at h2
 unfold zQS;simp only[unE,jBe,jBk]at hQ ⊢;simp -implicitDefEqProofs;refine qI (S:=Nat) (fun k=>unE PL xl xr X i++[(24,.sl X.length (jG X)),(26,int k)]) (fun _=>[.box (zI b),.box (zS t)]) (fun k=>k<=X.length) (fun k=>X.length-k) 0 (by simp)
  (mw [0,1] 0 (by rfl) (by simp[hE,zS,unE])) ?_
 intro k hk;by_cases h:k<X.length
 .have hw:=yK k (by omega);obtain⟨y,n,e,hc1,hc2⟩:=hc _ (jA0 h);have rb:=zH1 fb t X[k] 5000 (by omega) (by omega) (hXs _ (jA0 h));have rq:=zH1 fq t X[k] 5000 (by omega) (by omega) (hXs _ (jA0 h));rw[hc2]at rq;rw[hc1]at rb rq;have hx6:=hX6 _ (jA0 h);have hcd:=zDN h;have hXn:¬X=[]:=fun e=>by rw[e]at h;simp at h
  have hcm:=rI y y;rw[zCM]at hcm;generalize hxe:X[k]=x at *
  simp -implicitDefEqProofs [unE,hE,zS,h,hcd,hXn]
  intros
  refine aI rb (by simp[hE,zS]) (by simp[zN]) ?_;simp -implicitDefEqProofs [hE,zS,zN,h,hcd,hXn,hiI,hi2,hi4,hpd,hPn,h2];refine aI rq (by simp[hE,zS]) (by simp[zN]) ?_;simp -implicitDefEqProofs [hE,zS,zN,h,hcd,hXn];refine qC hcm (by simp[zN]) (by simp) ?_;simp -implicitDefEqProofs [h,hcd,hXn]
  intros
  refine qI (S:=Nat) (fun o=>unE PL xl xr X i++[(24,.sl X.length (jG X)),(26,int k),(33,int o)]) (fun _=>[.box (zI b),.box (zS t)]) (fun o=>o<=x.length) (fun o=>x.length-o) 0 (by simp)
   (mw [0,1] 0 (by rfl) (by simp[hE,zS,unE])) ?_
  intro o ho;by_cases h3:o<x.length
  .have hwo:=yK o (by omega);have hvd:=jE h3;have hxn:¬x=[]:=fun e=>by rw[e]at h3;simp at h3
   have hc3:=rI x[o] x[o];rw[zCM]at hc3;generalize x[o]=z at *
   simp -implicitDefEqProofs [unE,h,hcd,hXn,h3,hvd,hxn,zN]
   intros
   refine qC hc3 (by simp[zN]) (by simp) ?_;simp -implicitDefEqProofs;exact zO (o+1) h3 (by omega) (mw [0,1] 0 (by rfl) (by simp[hE,zS,unE,hwo]))
  .have hoe:o=x.length:=by omega
   subst hoe;simp -implicitDefEqProofs [unE,h,hcd,hXn]
   intros
   exact zO (k+1) h (by omega) (mw [0,1] 0 (by rfl) (by simp[hE,zS,unE,hw]))
 .have hke:k=X.length:=by omega
  subst hke;simp -implicitDefEqProofs [unE]
  intros
  exact hQ _ _ (mw [0,1] 0 (by rfl) (by simp[hE,zS]))
theorem zSU{l r:Prg}{t:Id}{f:Int}(hb:cF b t=true)(h:(ofT b l r t f).2=0):(yF b t f).2=0/\((ofT b l r t f).1.1=false->fV (yF b t f).1 (oJ b l)=false)/\((ofT b l r t f).1.2=false->fV (yF b t f).1 (oJ b r)=false):=by
 unfold ofT at h⊢;by_cases h1:(yF b t f).2=0
 .by_cases h2:(yF l t f).2=0
  .by_cases h3:(yF r t f).2=0
   .simp only[h1,h2,h3,ne_eq,not_true_eq_false,if_false,hb,Bool.not_true,Bool.false_and,jAg,Bool.or_false,zOY,Bool.or_eq_false_iff];exact⟨trivial,fun h=>h.1,fun h=>h.1⟩
   .simp[h1,h2,h3]at h
  .simp[h1,h2]at h
 .simp[h1]at h
theorem qGi(l a b:wC)(how:Int)(hl:∀x∈l,w64 x=x)(ha:∀x∈a,w64 x=x)(hb:∀x∈b,w64 x=x)(hw:w64 how=how) :
 my 9 [.sl l.length (aQ l),.sl a.length (aQ a),.sl b.length (aQ b),int how] [] (bl true) []:=by
 obtain⟨P,hP,rS⟩:=zTu l a b how hl ha hb hw;have hlv:=zBf;have hnd:=hP.ndN hl;have ht:=hP.tst hl how hw;obtain⟨sL,nL,tL⟩:=hP.tw hl a ha (zAx a 3);obtain⟨sR,nR,tR⟩:=hP.tw hl b hb (zAx b 3);have SB:=(hP.snd hl).B ht (jY (IntKind.i64.wrap (how.tdiv 7)) 12);have SL:=sL.L (tL.tst ht) (jY (IntKind.i64.wrap (how.tdiv 7)) 12);have SR:=sR.R (tR.tst ht) (jY (IntKind.i64.wrap (how.tdiv 7)) 12);have hrel:cF (sdB P (uV P how) (jY (IntKind.i64.wrap (how.tdiv 7)) 12)) (uV P how)=true->sdB P (uV P how) (jY (IntKind.i64.wrap (how.tdiv 7)) 12)=P:=by
  unfold sdB;split
  .intro h;rw[zIQ,xO]at h;simp at h
  .exact fun _=>rfl
 have wL:zRs P (sdL ⟨P.mods,eJ a P.defs (zAx a 3)⟩ (uV P how) (jY (IntKind.i64.wrap (how.tdiv 7)) 12)) (uV P how):=by
  unfold sdL;split
  .exact .inr (xO _ _)
  .split
   .exact .inl ⟨_,tL,.inr rfl⟩
   .exact .inl ⟨_,tL,.inl rfl⟩
 have wR:zRs P (sdR ⟨P.mods,eJ b P.defs (zAx b 3)⟩ (uV P how) (jY (IntKind.i64.wrap (how.tdiv 7)) 12)) (uV P how):=by
  unfold sdR;split
  .exact .inr (xO _ _)
  .exact .inl ⟨_,tR,.inl rfl⟩
 unfold sdA at rS;generalize sdB P (uV P how) (jY (IntKind.i64.wrap (how.tdiv 7)) 12)=B at *
 generalize sdL ⟨P.mods,eJ a P.defs (zAx a 3)⟩ (uV P how) (jY (IntKind.i64.wrap (how.tdiv 7)) 12)=L at *
 generalize sdR ⟨P.mods,eJ b P.defs (zAx b 3)⟩ (uV P how) (jY (IntKind.i64.wrap (how.tdiv 7)) 12)=R at *
 generalize uV P how=t at *
 obtain⟨_,fB⟩:=SB.fit;obtain⟨_,fL⟩:=SL.fit;obtain⟨_,fR⟩:=SR.fit;have r1:=zD0 fB fL fR SB.fine SL.fine SR.fine t 5000 (by omega) (by omega);have r2:=zVI B (by have:=SB.le8;omega) t;have r3:=sC B (by have:=SB.le8;omega) t;have hE:∀q:Prg,zI q=[.sl q.mods.length (qA q.mods),.sl q.defs.length (zQ q.defs)]:=fun _=>rfl
 have hna:=fun h1 h2=>zSU (b:=B) (l:=L) (r:=R) (t:=t) (f:=5000) h1 h2
 unfold vH at r1;refine zH func9 rfl qLt (rs:=[.slot 8]) (by kernel_rfl) ?_;unfold qDi;simp -implicitDefEqProofs;refine mu rS (by simp[hE,zS]) ?_;simp -implicitDefEqProofs [hE,zS];refine mu r1 (by simp[hE,zS]) ?_;by_cases he:(ofT B L R t 5000).2=0
 .rw[he];cases hh:cF B t with
  |false =>
   simp -implicitDefEqProofs [hE,zS];refine mu r2 (by simp[hE,zS]) ?_;rw[hh];simp -implicitDefEqProofs;refine mu hlv (by simp) ?_;simp -implicitDefEqProofs;exact zB 0 (by simp)
  |true =>
   obtain rfl:B=P:=hrel hh;obtain⟨z0,zl,zr⟩:=hna hh he;obtain⟨d,hd⟩:∃d,testD B t=some d:=by unfold cF at hh;exact Option.isSome_iff_exists.1 hh
   obtain⟨hfd,hk⟩:=bT hd;obtain⟨hi0,hia⟩:=zAn hd z0;have cL:=fun h=>zGA fB hnd wL hd z0 (zl h)
   have cR:=fun h=>zGA fB hnd wR hd z0 (zr h)
   have hsB:Sml B:=fun d hd=>by have:=(fB.slots d hd).2.1;omega
   have hd6:=(fB.slots d (yD hfd).1).2.1;have ri:=zAd B hsB d.slots (by omega);have hXs:=fun x hx=>zBX (p:=B) (l:=d.slots) (x:=x) hx
   have hXn:=vS B d.slots;have hX6:∀x∈(jW B d.slots).1,x.length<=100:=fun x hx=>by rw[zMJ hx];omega
   have hcb:∀v∈(jW B d.slots).1,∃(y:Val) (n e:Int),bF B t v 5000=.tup [.agg (zN y),int n,int e]:=fun v _=>by obtain⟨n,q,_⟩:=zUp hfd (by rw[hk];decide) v (fuel:=5000) (by omega);exact⟨_,_,_,q⟩
   unfold dI at r3;rw[hfd]at r3;simp only[jBt,Option.isSome_some]at r3;obtain⟨X,hIV⟩:∃X,jW B d.slots=(X,0):=⟨_,Prod.ext rfl hi0⟩;rw[hIV]at ri hXs hXn hX6 hcb;simp only[hIV]at cL cR;simp only at ri hXs hXn hX6 hcb;clear hia hi0 zl zr hna;generalize (ofT B L R t 5000).1.1=xl at *
   generalize (ofT B L R t 5000).1.2=xr at *
   rw[hh]at r2;have w1:IntKind.i64.wrap 1=1:=by decide
   have w2:IntKind.i64.wrap 2=2:=by decide
   simp -implicitDefEqProofs [hE,zS];refine mu r2 (by simp[hE,zS]) ?_;simp -implicitDefEqProofs [hE,zS];refine mu r3 (by simp[hE,zS]) ?_;simp -implicitDefEqProofs [hE,zS,zJ];refine mu ri (by simp[hE]) ?_;simp -implicitDefEqProofs;refine qI (S:=Nat) (fun i=>unE [L,R] xl xr X i) (fun _=>[.box (zI B),.box (zS t)]) (fun i=>i<=2) (fun i=>2-i) 0 (by simp)
    (mw [0,3] 0 (by rfl) (by simp[hE,zS,unE,aG])) ?_
   intro i hi;by_cases h:i<2
   .rcases (by omega:i=0\/i=1)with rfl|rfl
    .cases xl with
     |true =>
      simp -implicitDefEqProofs [unE,hE,zS];refine⟨_,_,zM (l:=unE [L,R] true xr X 0) (U':=[.box (zI B),.box (zS t)]) [0,1] 0 (by simp) (by simp) (by simp[hE,zS]) (by simp[unE,aG,hE]),?_⟩;simp -implicitDefEqProofs [unE];exact zO 1 (by omega) (by omega) (mw [0,1] 0 (by rfl) (by simp[hE,zS,unE,aG,w1,w2]))
     |false =>
      obtain⟨d',g1,g2,g3,g4⟩:=cL rfl;obtain⟨_,gk⟩:=bT g1;have rd:=sC L (by have:=SL.le8;omega) t;unfold dI at rd;rw[g2]at rd;simp only[jBt,Option.isSome_some]at rd;have hsq:Sml L:=fun d hd=>by have:=(fL.slots d hd).2.1;omega
      have rin:=zAd L hsq d'.slots (by have:=(fL.slots d' (yD g2).1).2.1;omega);rw[g3]at rin;simp only at rin;have hK:=qHF fB fL t X hXn hXs hX6 [L,R] rfl false xr 0 (by simp) rfl (fun v hv=>by obtain⟨y,n,e,hc⟩:=hcb v hv;exact⟨y,n,e,hc,g4 v hv⟩)
      simp -implicitDefEqProofs [unE,hE,zS,aG];refine aI rd (by simp[hE,zS]) (by simp) ?_;simp -implicitDefEqProofs [hE,zS,zJ];refine qC rin (by simp[hE]) (by simp) ?_;simp -implicitDefEqProofs [gk]
      intros
      refine⟨_,_,kf [0,1] 0 (by rfl) ?_ ?_,hK _ fun E S hw1=>?_⟩
      .simp[hE,zS]
      .simp[unE,aG,hE]
      .simp -implicitDefEqProofs;refine⟨_,_,hw1,?_⟩;simp -implicitDefEqProofs [unE];exact zO 1 (by omega) (by omega) (mw [0,1] 0 (by rfl) (by simp[hE,zS,unE,aG,w1,w2]))
    .cases xr with
     |true =>
      simp -implicitDefEqProofs [unE,hE,zS];refine⟨_,_,zM (l:=unE [L,R] xl true X 1) (U':=[.box (zI B),.box (zS t)]) [0,1] 0 (by simp) (by simp) (by simp[hE,zS]) (by simp[unE,aG,hE]),?_⟩;simp -implicitDefEqProofs [unE];exact zO 2 (by omega) (by omega) (mw [0,1] 0 (by rfl) (by simp[hE,zS,unE,aG,w1,w2]))
     |false =>
      obtain⟨d',g1,g2,g3,g4⟩:=cR rfl;obtain⟨_,gk⟩:=bT g1;have rd:=sC R (by have:=SR.le8;omega) t;unfold dI at rd;rw[g2]at rd;simp only[jBt,Option.isSome_some]at rd;have hsq:Sml R:=fun d hd=>by have:=(fR.slots d hd).2.1;omega
      have rin:=zAd R hsq d'.slots (by have:=(fR.slots d' (yD g2).1).2.1;omega);rw[g3]at rin;simp only at rin;have hK:=qHF fB fR t X hXn hXs hX6 [L,R] rfl xl false 1 (by simp) rfl (fun v hv=>by obtain⟨y,n,e,hc⟩:=hcb v hv;exact⟨y,n,e,hc,g4 v hv⟩)
      simp -implicitDefEqProofs [unE,hE,zS,aG];refine aI rd (by simp[hE,zS]) (by simp) ?_;simp -implicitDefEqProofs [hE,zS,zJ];refine qC rin (by simp[hE]) (by simp) ?_;simp -implicitDefEqProofs [gk]
      intros
      refine⟨_,_,kf [0,1] 0 (by rfl) ?_ ?_,hK _ fun E S hw1=>?_⟩
      .simp[hE,zS]
      .simp[unE,aG,hE]
      .simp -implicitDefEqProofs;refine⟨_,_,hw1,?_⟩;simp -implicitDefEqProofs [unE];exact zO 2 (by omega) (by omega) (mw [0,1] 0 (by rfl) (by simp[hE,zS,unE,aG,w1,w2]))
   .have hie:i=2:=by omega
    subst hie;simp -implicitDefEqProofs [unE];refine mu hlv (by simp) ?_;simp -implicitDefEqProofs;exact zB 0 (by simp)
 .simp -implicitDefEqProofs [hE,zS,he];refine mu hlv (by simp) ?_;simp -implicitDefEqProofs;exact zB 0 (by simp)
def zQQ:K:=(Z (G [kMi 15 0] (K.block 0 (K.loop (Z (G [M 108 15,M 109 11,kN 110 109,kB 111 108 110 .lss] (Y 111 ks (K.exit 0))) (Z (K.block 1 (Z (K.dops [(0,1,J 115 7 2),(1,0,M 116 11),(2,0,M 117 15),(3,1,kX 118 116 117 2),(4,1,J 119 118 2),(5,1,J 120 7 2),(6,1,D 121 9 0),(7,1,J 122 121 3),(8,1,kC 123 20 [(kt 115),(kt 119),(kt 120),(kt 122),(kc 5000)]),(9,0,M 114 123),(10,0,kE 124 114 0),(11,0,kE 125 114 1),(12,0,kZ 16 [(.bool false),(.bool false)]),(13,0,S 16 124 2),(14,0,M 17 125)]) (G [M 126 17,kQi 127 126 0 false,M 128 127,T 128 true (D 129 16 0),T 128 true (L 130 129 1),T 128 true (kR 131 130),T 128 true (M 132 131),T 132 false (D 133 16 1),T 132 false (L 134 133 1),T 128 true (kPt 135 132 134),kPf 136 128 135] (Y 136 (G [kMb 6 false] kr) ks)))) (K.ops [M 112 15,kBi 113 112 1 .add,M 15 113])))))) (G [J 137 7 2,D 138 9 0,J 139 138 3,kC 140 29 [(kt 137),(kt 139)],⟨none,.bin (some 141) .geq (kt 140) (kc (-1))⟩,M 142 141,T 142 true (kC 143 18 []),kPf 144 142 143,M 6 144] kr))
def zQR:K:=(G [J 92 9 31,kZ 14 kz0,S 14 92 31] (G [kb 93 [ki,ki,ki] [(0,1,(kc 6)),(1,1,(kc 6)),(2,1,(kc 6))],kb 94 [ki,ki,ki] [(0,1,(kc 6)),(1,1,(kc 6)),(2,1,(kc 7))],kb 95 kz1 [(0,3,(kt 94)),(3,1,(kc 0))],D 96 9 14,J 97 96 15,kd 98 40 15 2 kz6 [(0,15,(kt 95)),(15,15,(kt 97))],⟨none,.bslice (some 99) 9 1 1 [(.string ⟨#[]⟩)] [(0,1,(.const (.string ⟨#[113]⟩)))]⟩,kb 100 kz1 [(0,3,(kt 93)),(3,1,(kc 6)),(13,1,(kt 98)),(14,1,(kt 99))],D 101 14 14,S 101 100 15] (G [M 102 11,J 103 7 2,J 104 14 31,kC 105 28 [(kt 103),(kt 104)],kd 106 26 2 1 [kl,kl] [(0,2,(kt 105))],kP 107 26 2 48 102 106,M 11 107] (K.wk zQQ))))
def qDh:K:=G [kMb 6 false] (G [M 18 0,kC 19 10 [(kt 18)],kZ 7 [kl,kl],S 7 19 2] (G [J 20 7 2,kC 21 11 [(kt 20)],M 8 21] (Z (G [M 22 8,kN 23 22,kQi 24 23 0 false] (Y 24 (G [kC 25 18 [],M 6 25] kr) ks)) (Z (K.dops [(0,1,J 27 7 2),(1,0,M 28 8),(2,0,M 29 1),(3,0,M 30 8),(4,1,kN 31 30),(5,1,kC 32 14 [(kt 29),(kt 31)]),(6,1,kX 33 28 32 3),(7,1,J 34 33 3),(8,1,kC 35 26 [(kt 27),(kt 34)]),(9,0,M 26 35),(10,0,kE 36 26 0),(11,0,kE 37 26 1),(12,0,kZ 9 kz0),(13,0,S 9 36 31),(14,0,M 10 37)]) (G [kMn 11] (Z (K.wk (K.ops [M 38 11,J 39 7 2,D 40 9 0,J 41 40 3,kC 42 27 [(kt 39),(kt 41)],kd 43 26 2 1 [kl,kl] [(0,2,(kt 42))],kP 44 26 2 48 38 43,M 11 44])) (Z (G [D 45 9 8,L 46 45 1,kN 47 46,kBi 48 47 0 .gtr] (Y 48 (G [J 49 9 31,kZ 12 kz0,S 12 49 31] (G [M 50 2,D 51 9 8,L 52 51 1,kN 53 52,kC 54 14 [(kt 50),(kt 53)],M 13 54] (G [⟨none,.brow (some 55) 74 11 0 [] []⟩,D 56 9 8,L 57 56 1,kP 58 74 11 112 55 57,D 59 12 8,S 59 58 1] (Z (K.dops [(0,0,D 60 12 8),(1,0,L 61 60 1),(2,0,M 62 13),(3,0,D 63 12 8),(4,0,L 64 63 1),(5,0,M 65 13),(6,0,kX 66 64 65 11),(7,0,D 67 66 9),(8,0,L 68 67 1),(9,0,kBi 69 68 1 .add),(10,0,kBi 70 69 3 .rem),(11,0,kX 71 61 62 11),(12,0,D 72 71 9),(13,0,S 72 70 1)]) (Z (K.wk (K.dops [(0,0,D 73 12 8),(1,0,L 74 73 1),(2,0,M 75 13),(3,0,kX 76 74 75 11),(4,0,D 77 76 9),(5,0,L 78 77 1),(6,0,D 79 9 8),(7,0,L 80 79 1),(8,0,M 81 13),(9,0,kX 82 80 81 11),(10,0,D 83 82 9),(11,0,L 84 83 1),(12,0,kQ 85 78 84 true)])) (Y 85 (K.ops [M 86 11,J 87 7 2,
 J 88 12 31,kC 89 28 [(kt 87),(kt 88)],kd 90 26 2 1 [kl,kl] [(0,2,(kt 89))],kP 91 26 2 48 86 90,M 11 91]) ks)))))) ks)) (K.wk zQR))))))))
theorem qLs:ky f8 qDh:=m_ (by kernel_rfl)
theorem qGY{P:Prg}(fP:Fit P hs)(nP:FineP P)(hA:Acy P)(all:List Prg)(h3:all.length<=3)(hall:∀q∈all,Own P q d.id) :
 wpK prog 0 zQQ (fin [RS.slot 6] (sP 0 (bl true) [])) (jO [(7,.ptr 0 0),(9,.ptr 1 0),(11,.sl all.length (aG all))]) [.box (zI P),.box (zJ d)]:=by
 have hE:∀q:Prg,zI q=[.sl q.mods.length (qA q.mods),.sl q.defs.length (zQ q.defs)]:=fun _=>rfl
 have hlv:=zBf;obtain⟨n,hn,rM⟩:=zVt hA d.id;unfold zQQ;simp -implicitDefEqProofs;refine qI (S:=Nat) (fun i=>[(7,.ptr 0 0),(9,.ptr 1 0),(11,.sl all.length (aG all)),(15,int i)]) (fun _=>[.box (zI P),.box (zJ d)]) (fun i=>i<=all.length) (fun i=>all.length-i) 0 (by simp)
  (mw [0,1] 0 (by rfl) (by simp[hE,zJ])) ?_
 intro i hi;by_cases h:i<all.length
 .have hw:=yK i (by omega);obtain⟨⟨_,fq⟩,nq,ho⟩:=hall _ (jA0 h);have hcd:=zDL h;have r1:=zD0 fP fq fP nP nq nP d.id 5000 (by omega) (by omega);unfold vH at r1;have hne:¬all=[]:=fun e=>by rw[e]at h;simp at h
  generalize all[i]=q at *
  generalize (ofT P q P d.id 5000).2=e at *
  generalize (ofT P q P d.id 5000).1=y at *
  simp -implicitDefEqProofs [h,hcd,hne,hE,zJ];intro _;refine aI r1 (by simp[hE,zS]) (by simp) ?_;by_cases he:e=0
  .obtain rfl:=ho he;subst he;simp -implicitDefEqProofs [hE,zJ];exact zO (i+1) h (by omega) (mw [0,1] 0 (by rfl) (by simp[hE,zJ,hw]))
  .simp -implicitDefEqProofs [hE,zJ,he];exact zO (i+1) h (by omega) (mw [0,1] 0 (by rfl) (by simp[hE,zJ,hw]))
 .have hie:i=all.length:=by omega
  subst hie;simp -implicitDefEqProofs [hE,zJ]
  intros
  refine mu rM (by simp[hE,zS]) ?_;simp -implicitDefEqProofs [hn];refine mu hlv (by simp) ?_;simp -implicitDefEqProofs;exact zB 0 (by simp)
theorem zX4{l:wC}(hl:∀x∈l,w64 x=x){P:Prg}(hP:PrgOk l P)(hd:d∈P.defs)(hk:d.kind=4)(all:List Prg)(h3:all.length<=2)(hall:∀q∈all,Own P q d.id) :
 wpK prog 0 zQR (fin [RS.slot 6] (sP 0 (bl true) [])) (jO [(7,.ptr 0 0),(9,.ptr 1 0),(11,.row 2 all.length)]) [.box (zI P),.box (zJ d),.row false 26 2 all.length (aG all)]:=by
 have hE:∀q:Prg,zI q=[.sl q.mods.length (qA q.mods),.sl q.defs.length (zQ q.defs)]:=fun _=>rfl
 have hL:=qGY (hP.fit hl) (hP.fine hl).1 (hP.acy hl) (d:=d) (all++[reP P (d.wb (zGa d.body))]) (by simp;omega) (fun q hq=>by
  rcases jA6.1 hq with hq|hq
  .exact hall q hq
  .rw[jAi.1 hq];exact hP.own_body hl hd hk)
 have rR:=zLn P (hP.snd hl).le8 (d.wb (zGa d.body));unfold zQR;have hsn:∀(L:List Prg) (q:Prg),aG (L++[q])=aG L++zI q:=fun L q=>by simp[aG]
 have hq:yJ [⟨#[113]⟩]=[.lit (.string ⟨#[113]⟩)]:=rfl;simp -implicitDefEqProofs [zJ,hE];refine mu rR (by simp[hE,zJ,Dfn.wb,zGa,zL,zG,Id.zero,Typ.zero,Typ.k,Typ.id,Typ.kids,hq]) ?_;simp -implicitDefEqProofs [hE];refine⟨⟨by simp[maxLen];omega,by omega⟩,?_⟩;refine⟨_,_,kf [0,1] 1 (by rfl) ?_ ?_,hL⟩
 .simp[hE,zJ]
 .simp[hE,hsn]
theorem zIn{k:Nat}(hk:k<l.length):(qP l).drop (k*11+9)=.lit (.int .i64 l[k].most)::.lit (.int .i64 l[k].place)::qP (l.drop (k+1)):=by rw[<-jAu,qW hk];rfl
theorem zTz{k:Nat}(hk:k<l.length)(m:Int):(qP l).take (k*11+9)++.lit (.int .i64 m)::(qP l).drop (k*11+9+1)=qP (l.set k (l[k].wm m)):=by
 have e1:(qP l).drop (k*11+9+1)=.lit (.int .i64 l[k].place)::qP (l.drop (k+1)):=by rw[<-jAu,zIn hk];rfl
 have e2:(qP l).drop (k*11+11)=qP (l.drop (k+1)):=by rw[<-jAu,qW hk];rfl
 rw[<-zMl (l[k].wm m) hk,List.take_add,jAq,e1,e2,qW hk];rfl
theorem qGh(l:wC)(which n:Int)(hl:∀x∈l,w64 x=x)(hwh:w64 which=which)(hn:w64 n=n) :
 my 8 [.sl l.length (aQ l),int which,int n] [] (bl true) []:=by
 obtain⟨P,hP,rP⟩:=zO7 l hl;have hlv:=zBf;have hf:=hP.fit hl;have h8:=(hP.snd hl).le8;have rts:=zIg P h8;have hE:∀q:Prg,zI q=[.sl q.mods.length (qA q.mods),.sl q.defs.length (zQ q.defs)]:=fun _=>rfl
 have hX:∀t∈aT (iL P),∃d∈P.defs,d.id=t/\d.kind=4:=fun t ht=>by obtain⟨d,hd,hid⟩:=jA9.1 (yX.1 ht);obtain⟨h1,h2⟩:=List.mem_filter.1 hd;exact⟨d,h1,hid,by simpa using h2⟩
 have hXl:(aT (iL P)).length<=100:=jAz (eE _) (jAz (pY P.defs) h8);generalize aT (iL P)=X at *
 refine zH func8 rfl qLs (rs:=[.slot 6]) (by kernel_rfl) ?_;unfold qDh;simp -implicitDefEqProofs;refine mu rP (by simp[hE]) ?_;simp -implicitDefEqProofs [hE];refine mu rts (by simp[hE]) ?_;by_cases hx:X=[]
 .subst hx;simp -implicitDefEqProofs;refine mu hlv (by simp) ?_;simp -implicitDefEqProofs;exact zB 0 (by simp)
 .have hpos:0<X.length:=List.length_pos_iff.2 hx;obtain⟨a0,a1⟩:=cX (k:=(X.length:Int)) hwh (by omega);have rr:=nW which X.length (by omega);obtain⟨x,hxe⟩:∃x:Nat,jY which X.length=x:=⟨(jY which X.length).toNat,by omega⟩;rw[hxe]at rr a1;have hxl:x<X.length:=by omega
  have hcd:=jN hxl;obtain⟨d,hd,hid,hk⟩:=hX _ (jA0 hxl);have hfd:qG P.defs d.id=some d:=(bT (hP.testD hl hd hk)).1;have r3:=sC P (by omega) d.id;unfold dI at r3;rw[hfd]at r3;simp only[jBt,Option.isSome_some]at r3;rw[<-hid]at hcd;generalize X[x]=t at *
  subst hid;obtain⟨s1,s6,_⟩:=hf.slots d hd;have hsp:(0:Int)<d.slots.length:=by omega
  have rW:=zEI P h8 d.id;have hn0:=cX (k:=(d.slots.length:Int)) hn (by omega);have rn:=nW n d.slots.length (by omega);obtain⟨k,hke⟩:∃k:Nat,jY n d.slots.length=k:=⟨(jY n d.slots.length).toNat,by omega⟩;rw[hke]at rn hn0;have hkl:k<d.slots.length:=by omega
  simp -implicitDefEqProofs [hpos,hx];intro _;refine aI rr (by simp) (by simp) ?_;simp -implicitDefEqProofs [hE,hxl,hx,hcd];refine aI r3 (by simp[hE,zS]) (by simp[hE]) ?_;simp -implicitDefEqProofs [hE,zJ];refine⟨_,_,(jS (t:=11) (by simp) 26 2).trans (zM (l:=[(2,int n),(7,.ptr 0 0),(9,.ptr 1 0),(11,.row 2 0)]) (U':=[.box (zI P),.box (zJ d),.row false 26 2 0 []]) [0,1,2] 0 (by simp) (by simp) (by simp[hE,zJ]) (by simp)),?_⟩;simp -implicitDefEqProofs [hE,zJ];refine mu rW (by simp[hE,zS]) ?_;have hcs:=qW hkl;have hspn:0<d.slots.length:=by omega
  have hsn:¬d.slots=[]:=fun e=>by rw[e]at hkl;simp at hkl
  simp -implicitDefEqProofs [hE,zJ,hspn];refine⟨by decide,fun _=>?_⟩;refine mu rn (by simp) ?_;have hb1:k*11+9+1<=d.slots.length*11:=by omega
  have hdr:=zIn hkl;have hset:=zTz hkl;have hm1:d.slots.length<=maxLen/\d.slots.length*112<=140737488355328:=⟨by unfold maxLen;omega,by omega⟩;simp -implicitDefEqProofs [hE,zJ,hkl,hsn,hcs,hb1,hdr,hset,hm1];obtain⟨M,hM⟩:∃M,M=(IntKind.i64.wrap (d.slots[k].most+1)).tmod 3:=⟨_,rfl⟩;obtain⟨x2,hx2⟩:∃x2,x2=d.ws (d.slots.set k (d.slots[k].wm M)):=⟨_,rfl⟩;refine⟨_,_,zM (l:=[(7,.ptr 0 0),(9,.ptr 1 0),(11,.row 2 1),(12,.ptr 3 0),(13,int k)]) (U':=[.box (zI P),.box (zJ d),.row false 26 2 1 (zI (woP P d.id)),.box (zJ x2)]) [0,1,2,3] 1 (by simp) (by simp) ?_ ?_,?_⟩
  .rw[hx2];simp[hE,zJ,Dfn.ws,hM]
  .simp
  have hcs2:=qW (l:=d.slots.set k (d.slots[k].wm M)) (i:=k) (by simpa using hkl);rw[jDn,show d.slots.set k (d.slots[k].wm M)=x2.slots by rw[hx2];rfl]at hcs2;have hl2:x2.slots.length=d.slots.length:=by rw[hx2];simp[Dfn.ws]
  have hne2:¬x2.slots=[]:=fun e=>by rw[e]at hl2;simp at hl2;omega
  have hcP:∀q r:Prg,aG [q,r]=zI q++zI r:=fun q r=>by simp[aG]
  have hcQ:∀q:Prg,aG [q]=zI q:=fun q=>by simp[aG]
  have hwo:=hP.own_wo hl hd hk;by_cases hmm:M=d.slots[k].most
  .have hR:=zX4 hl hP hd hk [woP P d.id] (by simp) (by simpa using hwo);simp -implicitDefEqProofs [hE,zJ,hkl,hsn,hne2,hl2,hcs,hcs2,aF,Slt.wm,hmm];refine⟨_,_,kf [0,1,2] 0 (by rfl) ?_ ?_,hR⟩
   .simp[hE,zJ,hcQ]
   .simp
  .have rX:=zLn P h8 x2;have hown:Own P (reP P x2) d.id:=by rw[hx2];exact hP.own_most hl hd hk hkl hmm
   have hR:=zX4 hl hP hd hk [woP P d.id,reP P x2] (by simp) (by simpa using ⟨hwo,hown⟩);simp -implicitDefEqProofs [hE,zJ,hkl,hsn,hne2,hl2,hcs,hcs2,aF,Slt.wm,hmm];refine mu rX (by simp[hE,zJ,hl2]) ?_;simp -implicitDefEqProofs [hE,zJ];refine⟨by simp[maxLen],?_⟩;refine⟨_,_,kf [0,1,2] 0 (by rfl) ?_ ?_,hR⟩
   .simp[hE,zJ,hcP]
   .simp
end Go.Proofs.YtolkhapmieigcaaGreatDoor
