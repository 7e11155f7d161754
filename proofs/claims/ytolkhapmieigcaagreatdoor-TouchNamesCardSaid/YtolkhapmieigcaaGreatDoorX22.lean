/- slices.DeleteFunc at the tests, and which tests run again, walked. -/
import Derived.Test.YtolkhapmieigcaaGreatDoorX21
set_option linter.unusedVariables false
set_option maxHeartbeats 8000000
set_option maxRecDepth 100000
set_option linter.unusedSimpArgs false
open Go.Proofs.Tryz
namespace Go.Proofs.YtolkhapmieigcaaGreatDoor
open Go.Abs
def zPr:K:=G [kMn 4] (G [M 8 0,M 9 1,kC 10 125 [(kt 8),(kt 9)],M 5 10] (Z (G [M 11 5,⟨none,.eqv (some 12) false .i (kt 11) (kc (-1))⟩] (Y 12 (G [M 13 0,M 4 13] kr) ks)) (Z (G [M 14 5,kBi 15 14 1 .add,M 6 15] (K.block 0 (K.loop (Z (G [M 16 6,M 17 0,kN 18 17,kB 19 16 18 .lss] (Y 19 ks (K.exit 0))) (Z (K.block 1 (G [M 22 0,M 23 6,kX 24 22 23 3,J 25 24 3,kZ 7 [ki,ki,ki],S 7 25 3] (G [M 26 1,J 27 7 3,⟨none,.call (some 28) (kt 26) [(kt 27)]⟩,kR 29 28] (Y 29 (G [M 30 0,M 31 5,J 32 7 3,kX 33 30 31 3,S 33 32 3] (K.ops [M 34 5,kBi 35 34 1 .add,M 5 35])) ks)))) (K.ops [M 20 6,kBi 21 20 1 .add,M 6 21])))))) (G [M 36 0,M 37 5,⟨none,.rslc (some 38) (kt 36) 3 (some (kt 37)) none⟩,⟨none,.mop none (.clr 3 [ki,ki,ki]) [(kt 38)]⟩] (G [M 39 0,M 40 5,⟨none,.rslc (some 41) (kt 39) 3 none (some (kt 40))⟩,M 4 41] kr)))))
theorem zU3:ky f57 zPr:=m_ (by kernel_rfl)
def zPB:K:=G [kO 5 0,kMb 6 false] (G [J 10 1 2,J 11 2 2,J 12 3 2,J 13 5 3,L 14 4 1,kC 15 20 [(kt 10),(kt 11),(kt 12),(kt 13),(kt 14)],M 9 15,kE 16 9 0,kE 17 9 1,kZ 7 [(.bool false),(.bool false)],S 7 16 2,M 8 17] (G [M 18 8,kQi 19 18 0 false,M 20 19,T 20 true (D 21 7 0),T 20 true (L 22 21 1),T 20 true (M 23 22),T 23 true (D 24 7 1),T 23 true (L 25 24 1),T 20 true (kPf 26 23 25),T 20 true (kR 27 26),kPf 28 20 27,M 6 28] kr))
theorem zWa:ky f59 zPB:=m_ (by kernel_rfl)
theorem zTF{P:Program}{f:FuncId}{args:wF} {U0 U1:St}{l m sz:Nat}{fz:Bool}{e:TypeId}{cs:wF}(h:Ret P f args U0 (.row l m) U1)(hl : U1[l]?=some (.row fz e sz m cs)):Ret P f args U0 (.win l m 0 m sz) U1:=by
 intro H L w vs hs ha;refine(h H L w vs hs ha).mono fun e' w' hh=>?_
 obtain⟨o,U',H',L',g1,g2,rfl,rfl⟩:=hh;refine⟨.ret (.win l m 0 m sz),_,H',L',?_,g2,rfl,rfl⟩;obtain⟨v,rfl,hv⟩:=g1;refine⟨v,rfl,?_⟩;simp only[Rel]at hv ⊢;obtain⟨g0,li,e1,e2,e3,hv⟩:=hv;refine⟨g0,li,e1,e2,e3,fun hn=>⟨jA _,?_⟩⟩;have hob:=g2.st.obj l li _ e1 hl;simp only[zW]at hob;obtain⟨_,_,_,hob⟩:=hob;rw[hv hn];rcases hob with ⟨hb,hz⟩|⟨b,cur,hb,_,k1,k2,_⟩
 .rw[hb];exact⟨none,0,by rw[hz],by omega,jB _,.inl rfl⟩
 .rw[hb];exact⟨_,_,rfl,k1,k2,.inr ⟨b,rfl,rfl,by simp⟩⟩
theorem zI4(l:wG)(hb:l.length<=1000000):my 58 [.row 0 l.length] [.row false 32 3 l.length (zS l)] (.win 0 l.length 0 (yG l).length 3)
 [.row false 32 3 l.length (zS (yG l++cR (l.length-(yG l).length)))]:=by
 have h:=zDG l (by omega);unfold zFQ at h;by_cases hc:yG l=l
 .rw[if_pos hc]at h;have:=zTF h (fz:=false) (e:=32) (sz:=3) (cs:=zS (yG l++cR (l.length-(yG l).length))) rfl;have e:(yG l).length=l.length:=by rw[hc]
  rw[e]at this ⊢;exact this
 .rw[if_neg hc]at h;exact h
theorem zHd(Ls:List wG)(hb:dC Ls<=1000000):my 56 [.sl Ls.length (bF Ls)] [] (.row 0 (dC Ls)) [.row false 32 3 (dC Ls) (zS Ls.flatten)]:=by
 refine zG func56 rfl zMx (rs:=[.slot 2]) (by kernel_rfl) ?_;unfold zGQ;simp;intro hl;refine qH (S:=Nat) (fun i=>[(0,.sl Ls.length (bF Ls)),(3,int (dC (Ls.take i))),(9,.sl Ls.length (bF Ls)),(10,int Ls.length),(11,int i)]) (fun s=>[]) (fun i=>i<=Ls.length) (fun i=>Ls.length-i) 0 (by simp)
  (mw [] 0 (by rfl) (by simp[dC])) ?_
 intro i hi;by_cases h:i<Ls.length
 .have ht:=vE h;have hle:=zDw Ls (i+1);have hw:IntKind.i64.wrap ((dC (Ls.take i):Int)+(Ls[i].length:Int))=(dC (Ls.take (i+1)):Nat):=by rw[ht];push_cast;exact IntWalk.i64_in _ (by omega)
  have h0:¬((dC (Ls.take (i+1)):Nat):Int)<0:=by omega
  simp[h,nN h];intro _;simp[hw,h0];exact zN (i+1) h (by omega) (mw [] 0 (by rfl) (by simp[zY h hl]))
 .have hil:i=Ls.length:=by omega
  subst hil;have hI:¬(Ls.length:Int)<Ls.length:=by omega
  simp;refine mr (zEe (dC Ls) (by omega)) [] (by simp) ?_;simp;intro _;refine qH (S:=Nat) (fun i=>[(6,.row 0 (dC (Ls.take i))),(25,.sl Ls.length (bF Ls)),(26,int Ls.length),(27,int i)]) (fun i=>[.row false 32 3 (dC (Ls.take i)) (zS (Ls.take i).flatten)]) (fun i=>i<=Ls.length) (fun i=>Ls.length-i) 0 (by simp)
   (mw [0] 0 (by rfl) (by simp[dC])) ?_
  intro i hi;by_cases h:i<Ls.length
  .have ht:=vE h;have hle:=zDw Ls (i+1);have hf:(Ls.take (i+1)).flatten=(Ls.take i).flatten++Ls[i]:=by rw[jA8 h,jCi];simp
   simp[h,nN h];refine⟨⟨by simp[maxLen];omega,by omega⟩,?_⟩;exact zN (i+1) h (by omega) (mw [0] 0 (by rfl) (by simp[ht,hf,qD,zY h hl]))
  .have hil:i=Ls.length:=by omega
   subst hil;simp;exact mv [0] 0 (by rfl) (by simp)
theorem zIE{g:Id->Bool}{L:wG}(h:L.findIdx? (fun x=>!g x)=none):L.filter g=L:=by
 rw[List.filter_eq_self];intro x hx;have:=List.findIdx?_eq_none_iff.1 h x hx
 simpa using this
section
variable{b l r:Prg}{hb hl hr:wQ}(fb:Fit b hb)(fl:Fit l hl)(fr:Fit r hr)(nb:FineP b)(nl:FineP l)(nr:FineP r)(fuel:Int)(h0:0<=fuel)(hfu:fuel<=90000)
def pJ(b l r:Prg)(fuel:Int):St:=[.box (zI b),.box (zI l),.box (zI r),.box [int fuel]]
include fb fl fr nb nl nr h0 hfu
theorem zFB(x:Id):my 59 [.agg (zX x),.ptr 0 0,.ptr 1 0,.ptr 2 0,.ptr 3 0] (pJ b l r fuel) (bl (!lS b l r fuel x)) (pJ b l r fuel):=by
 have hPb:zI b=[.sl b.mods.length (qC b.mods),.sl b.defs.length (zV b.defs)]:=rfl;have hPl:zI l=[.sl l.mods.length (qC l.mods),.sl l.defs.length (zV l.defs)]:=rfl;have hPr:zI r=[.sl r.mods.length (qC r.mods),.sl r.defs.length (zV r.defs)]:=rfl;have ho:=oN fb fl fr nb nl nr x fuel h0 hfu;have hg:lS b l r fuel x=(decide ((ofT b l r x fuel).2≠0)||((ofT b l r x fuel).1.1&&(ofT b l r x fuel).1.2)):=rfl;rw[hg];generalize ofT b l r x fuel=o at *
 obtain⟨⟨o1,o2⟩,o3⟩:=o;refine zG func59 rfl zWa (rs:=[.slot 6]) (by kernel_rfl) ?_;unfold zPB pJ;simp[hPb,hPl,hPr,zX];refine mu ho (by simp[hPb,hPl,hPr,zX,tB]) ?_;by_cases he:o3=0
 .cases o1<;>cases o2<;>simp[tB,he]<;>exact mv [0,1,2,3] 0 (by rfl) (by simp[hPb,hPl,hPr])
 .simp[tB,he];exact mv [0,1,2,3] 0 (by rfl) (by simp[hPb,hPl,hPr])
def zHp(g:Id->Bool)(L:wG):Int:=match L.findIdx? (fun x=>!g x)with
 |some i=>i
 |none=>-1
def fU:A:=.clo 59 [] [.ptr 0 0,.ptr 1 0,.ptr 2 0,.ptr 3 0]
theorem zSV(R:wG)(m:Nat)(hm:m<=R.length)(hR:R.length<=1000000):my 125 [.win 4 R.length 0 m 3,fU] (pJ b l r fuel++[.row false 32 3 R.length (zS R)])
 (int (zHp (lS b l r fuel) (R.take m))) (pJ b l r fuel++[.row false 32 3 R.length (zS R)]):=by
 have hPb:zI b=[.sl b.mods.length (qC b.mods),.sl b.defs.length (zV b.defs)]:=rfl;have hPl:zI l=[.sl l.mods.length (qC l.mods),.sl l.defs.length (zV l.defs)]:=rfl;have hPr:zI r=[.sl r.mods.length (qC r.mods),.sl r.defs.length (zV r.defs)]:=rfl;have ha:=zFB fb fl fr nb nl nr fuel h0 hfu;generalize lS b l r fuel=g at *
 refine zG func125 rfl zMy (rs:=[.slot 4]) (by kernel_rfl) ?_;unfold zGR pJ fU;unfold pJ at ha;simp[oY];refine qH (S:=Nat) (fun i=>[(0,.win 4 R.length 0 m 3),(1,fU),(7,int m),(8,int i)]) (fun i=>[.box (zI b),.box (zI l),.box (zI r),.box [int fuel],.row false 32 3 R.length (zS R)]) (fun i=>i<=m/\∀x∈R.take i,g x=true) (fun i=>m-i) 0 (by simp)
  (mw [0,1,2,3,4] 0 (by rfl) (by simp[hPb,hPl,hPr,fU])) ?_
 rintro i ⟨hi,hn⟩;by_cases h:i<m
 .have hiR:i<R.length:=by omega
  have hb3:i*3+3<=R.length*3:=by omega
  have hw:=yU i (by omega);have hcd:=qV hiR;have hax:=ha R[i];have hts:=jA8 hiR;generalize hx:R[i]=x at *
  simp[h,hcd,hb3,hiR,fU,hPb,hPl,hPr];refine mr hax [0,1,2,3] (by simp[hPb,hPl,hPr,zX]) ?_;simp;cases hg:g x with
  |false =>
   have:zHp g (R.take m)=i:=by
    have hfi:(R.take m).findIdx? (fun x=>!g x)=some i:=List.findIdx?_eq_some_iff_getElem.2 ⟨by simp;omega,by simp[hx,hg],fun j hj=>by
     have hjR:j<R.length:=by omega
     have:=hn R[j] (by rw[List.mem_take_iff_getElem];exact⟨j,by omega,rfl⟩);simp[this]⟩
    unfold zHp;rw[hfi]
   simp;exact mv [0,1,2,3,4] 0 (by rfl) (by simp[hPb,hPl,hPr,this])
  |true =>
   simp;exact zN (i+1) ⟨h,fun y hy=>by
    rw[hts]at hy;rcases jA6.1 hy with hy|hy
    .exact hn y hy
    .rw[jAk.1 hy];exact hg⟩ (by omega) (mw [0,1,2,3,4] 0 (by rfl) (by simp[hPb,hPl,hPr,fU,hw]))
 .have hie:i=m:=by omega
  subst hie;have:zHp g (R.take i) = -1:=by unfold zHp;rw[List.findIdx?_eq_none_iff.2 fun x hx=>by simp[hn x hx]]
  simp;exact mv [0,1,2,3,4] 0 (by rfl) (by simp[hPb,hPl,hPr,this])
theorem zS7(R:wG)(m:Nat)(hm:m<=R.length)(hR:R.length<=1000000):∃Z:wG,my 57 [.win 4 R.length 0 m 3,fU] (pJ b l r fuel++[.row false 32 3 R.length (zS R)])
 (.win 4 R.length 0 ((R.take m).filter (lS b l r fuel)).length 3) (pJ b l r fuel++[.row false 32 3 R.length (zS ((R.take m).filter (lS b l r fuel)++Z))]):=by
 have hPb:zI b=[.sl b.mods.length (qC b.mods),.sl b.defs.length (zV b.defs)]:=rfl;have hPl:zI l=[.sl l.mods.length (qC l.mods),.sl l.defs.length (zV l.defs)]:=rfl;have hPr:zI r=[.sl r.mods.length (qC r.mods),.sl r.defs.length (zV r.defs)]:=rfl;have ha:=zFB fb fl fr nb nl nr fuel h0 hfu;have hx:=zSV fb fl fr nb nl nr fuel h0 hfu R m hm hR;generalize lS b l r fuel=g at *
 cases hf:(R.take m).findIdx? (fun x=>!g x)with
 |none =>
  have hid:zHp g (R.take m) = -1:=by unfold zHp;rw[hf]
  rw[zIE hf];refine⟨R.drop m,?_⟩;rw[jBs];rw[hid]at hx;refine zG func57 rfl zU3 (rs:=[.slot 4]) (by kernel_rfl) ?_;unfold zPr;unfold pJ fU at hx ⊢;simp;refine mr hx [0,1,2,3,4] (by simp[hPb,hPl,hPr]) ?_;simp;exact mv [0,1,2,3,4] 0 (by rfl) (by simp[hPb,hPl,hPr,hm])
 |some i0 =>
  have hid:zHp g (R.take m)=i0:=by unfold zHp;rw[hf]
  obtain⟨hi0,hg0,hgl⟩:=List.findIdx?_eq_some_iff_getElem.1 hf;have hi0m:i0<m:=by simp at hi0;omega
  have hi0R:i0<R.length:=by omega
  have hfi:(R.take (i0+1)).filter g=R.take i0:=by
   rw[jA8 hi0R,jCs];have h1:(R.take i0).filter g=R.take i0:=by
    rw[List.filter_eq_self];intro x hx';obtain⟨j,hj,rfl⟩:=List.mem_take_iff_getElem.1 hx';have:=hgl j (by omega)
    simpa using this
   have h2:g R[i0]=false:=by simpa using hg0
   rw[h1];simp[h2]
  refine⟨cR (m-((R.take m).filter g).length)++R.drop m,?_⟩;rw[hid]at hx;have w1:IntKind.i64.wrap ((i0:Int)+1)=((i0+1:Nat):Int):=by push_cast;exact IntWalk.i64_in _ (by omega)
  have hne1:¬(i0:Int) = -1:=by omega
  refine zG func57 rfl zU3 (rs:=[.slot 4]) (by kernel_rfl) ?_;unfold zPr;unfold pJ fU at hx ⊢;unfold pJ at ha;simp;refine mr hx [0,1,2,3,4] (by simp[hPb,hPl,hPr]) ?_;simp[hne1,w1];refine qH (S:=Nat×Nat×wG) (fun s=>[(0,.win 4 R.length 0 m 3),(1,fU),(5,int s.2.1),(6,int s.1)]) (fun s=>[.box (zI b),.box (zI l),.box (zI r),.box [int fuel],.row false 32 3 R.length (zS s.2.2)])
   (fun s=>s.1<=m/\s.2.1<s.1/\s.2.2.length=R.length/\s.2.1=((R.take s.1).filter g).length/\s.2.2.take s.2.1=(R.take s.1).filter g/\s.2.2.drop s.1=R.drop s.1) (fun s=>m-s.1) (i0+1,i0,R)
   ⟨hi0m,by simp,rfl,by simp only[hfi];simp;omega,by simp only[hfi],rfl⟩
   (mw [0,1,2,3,4] 0 (by rfl) (by simp[hPb,hPl,hPr,fU])) ?_
  rintro⟨j,k,X⟩ ⟨r1,r2,r3,r4,r5,r6⟩;simp only at r1 r2 r3 r4 r5 r6;by_cases h:j<m
  .have hjR:j<R.length:=by omega
   have hjX:j<X.length:=by omega
   have hkX:k<X.length:=by omega
   have hXj:X[j]=R[j]:=by have:=congrArg (fun x:wG=>x[0]?) r6;simp only[jCq,jCf]at this;rw[jA2 hjX,jA2 hjR]at this;exact jAw this
   have hb3:j*3+3<=R.length*3:=by omega
   have hbk:k*3+3<=R.length*3:=by omega
   have hkm:k<m:=by omega
   have hcd:=qV hjX;have hst:=pR (R:=X) (k:=k) R[j] hkX;have hax:=ha R[j];have wj:IntKind.i64.wrap ((j:Int)+1)=((j+1:Nat):Int):=by push_cast;exact IntWalk.i64_in _ (by omega)
   have wk:IntKind.i64.wrap ((k:Int)+1)=((k+1:Nat):Int):=by push_cast;exact IntWalk.i64_in _ (by omega)
   have hts:(R.take (j+1)).filter g=(R.take j).filter g++(if g R[j]=true then [R[j]]else []):=by rw[jA8 hjR,jCs];by_cases hg:g R[j]=true<;>simp[hg]
   have hdr:∀Y:wG,Y.drop j=R.drop j->Y.drop (j+1)=R.drop (j+1):=fun Y hY=>by
    have:=congrArg (fun x:wG=>x.drop 1) hY
    simpa only[jAy]using this
   have hset:(X.set k R[j]).drop (j+1)=R.drop (j+1):=by rw[List.drop_set_of_lt (by omega)];exact hdr X r6
   have hstk:(X.set k R[j]).take (k+1)=X.take k++[R[j]]:=zKe hkX;rw[hXj]at hcd;generalize R[j]=x at *
   simp[h,hcd,hb3,hjR,r3,fU,hPb,hPl,hPr];refine mr hax [0,1,2,3] (by simp[hPb,hPl,hPr,zX]) ?_;cases hg:g x with
   |false =>
    rw[hg]at hts;simp only[jAj,if_false,jAs]at hts;simp;exact zN (j+1,k,X) ⟨h,by simp only;omega,r3,by simp only[hts];exact r4,by simp only[hts];exact r5,hdr X r6⟩ (by simp only;omega) (mw [0,1,2,3,4] 0 (by rfl) (by simp[hPb,hPl,hPr,fU,wj]))
   |true =>
    rw[hg]at hts;simp only[if_true]at hts;simp[hkm,hbk,r3,hst,zX];exact zN (j+1,k+1,X.set k x) ⟨h,by simp only;omega,by simp[r3],by simp only[hts,jA4,<-r4];simp,by simp only[hts,hstk,r5],hset⟩ (by simp only;omega) (mw [0,1,2,3,4] 0 (by rfl) (by simp[hPb,hPl,hPr,fU,wj,wk]))
  .have hjm:j=m:=by omega
   subst hjm;have hkm:k<=j:=by omega
   have hkR:k<=R.length:=by omega
   have hsub:(j:Int)-k=((j-k:Nat):Int):=by omega
   have e2:k*3+(j-k)*3=j*3:=by omega
   have hcells:List.take (k*3) (zS X)++((List.replicate (j-k) [A.lit (Value.int IntKind.i64 0),A.lit (Value.int IntKind.i64 0),A.lit (Value.int IntKind.i64 0)]).flatten++List.drop (k*3+(j-k)*3) (zS X))=zS ((R.take j).filter g++(cR (j-((R.take j).filter g).length)++R.drop j)):=by
    rw[e2,sT,r5,qD,qD,lY,<-r4,<-r6]
    congr 2
    rw[zA6]
   simp[r3];refine⟨by omega,by omega,by omega,?_⟩;rw[hcells];exact mv [0,1,2,3,4] 0 (by rfl) (by simp[hPb,hPl,hPr,r4])
end
def zUp:K:=G [kO 4 0,kO 5 1,kO 6 2,kO 7 3,kMn 8] (Z (K.dops [(0,0,J 10 4 2),(1,0,kC 11 13 [(kt 10)]),(2,0,J 12 5 2),(3,0,kC 13 13 [(kt 12)]),(4,0,J 14 6 2),(5,0,kC 15 13 [(kt 14)]),(6,0,kd 16 28 1 3 [kl,kl,kl] [(0,1,(kt 11)),(1,1,(kt 13)),(2,1,(kt 15))]),(7,3,kC 17 56 [(kt 16)]),(8,0,M 9 17)]) (G [M 18 9,kC 19 42 [(kt 18),(.func 43)]] (G [M 20 9,kC 21 58 [(kt 20)],⟨none,.clo (some 22) 59 [] [(kt 4),(kt 5),(kt 6),(kt 7)]⟩,kC 23 57 [(kt 21),(kt 22)],M 8 23] kr)))
def qDg:Nat->Option wE:=fun|1=>k_ [0,0,0,0,0,0,0,3,0]|_=>none
theorem qBZ:kx f22 qDg zUp:=mz (by kernel_rfl)
theorem zAz{b l r:Prg}{hb hl hr:wQ}(fb:Fit b hb)(fl:Fit l hl)(fr:Fit r hr)(nb:FineP b)(nl:FineP l)(nr:FineP r)(fuel:Int)(h0:0<=fuel)(hfu:fuel<=90000) :
 my 22 [.agg (zI b),.agg (zI l),.agg (zI r),int fuel] [] (.sl (fV b l r fuel).length (zS (fV b l r fuel))) []:=by
 have hPb:zI b=[.sl b.mods.length (qC b.mods),.sl b.defs.length (zV b.defs)]:=rfl;have hPl:zI l=[.sl l.mods.length (qC l.mods),.sl l.defs.length (zV l.defs)]:=rfl;have hPr:zI r=[.sl r.mods.length (qC r.mods),.sl r.defs.length (zV r.defs)]:=rfl;have lb:=fb.len8;have ll:=fl.len8;have lr:=fr.len8;have tb:=uE b (by omega);have tl:=uE l (by omega);have tr:=uE r (by omega);have nb':(j7 b).length<=100:=by rw[j7,(cQ _).length_eq];have:=oA b.defs;change (tsD _).length<=_;omega
 have nl':(j7 l).length<=100:=by rw[j7,(cQ _).length_eq];have:=oA l.defs;change (tsD _).length<=_;omega
 have nr':(j7 r).length<=100:=by rw[j7,(cQ _).length_eq];have:=oA r.defs;change (tsD _).length<=_;omega
 have hdel:=fun R m h1 h2=>zS7 fb fl fr nb nl nr fuel h0 hfu R m h1 h2
 have hag:fV b l r fuel=(yG (bE gI (j7 b++j7 l++j7 r))).filter (lS b l r fuel):=rfl;rw[hag];generalize lS b l r fuel=g at *
 generalize j7 b=B at *
 generalize j7 l=C at *
 generalize j7 r=D at *
 have e1:[B,C,D].flatten=B++C++D:=by simp
 have htot:dC [B,C,D]=(B++C++D).length:=by rw[dC,e1]
 have hlen:(B++C++D).length<=1000000:=by simp only[jA4];omega
 have hcc:=zHd [B,C,D] (by rw[htot];exact hlen);rw[htot,e1]at hcc;generalize B++C++D=L at *
 have hso:=zKi L (by omega);have hsl:(bE gI L).length=L.length:=(cQ L).length_eq;have hco:=zI4 (bE gI L) (by omega);have hcl:=zBB (bE gI L);rw[hsl]at hco hcl;generalize bE gI L=S at *
 obtain⟨Z,hde⟩:=hdel (yG S++cR (L.length-(yG S).length)) (yG S).length (by simp) (by simp[cR];omega);have e2:(yG S++cR (L.length-(yG S).length)).length=L.length:=by simp[cR];omega
 rw[e2,List.take_left]at hde;generalize yG S=Y at *
 unfold pJ fU at hde;refine zJ func22 rfl qBZ (rs:=[.slot 8]) (by kernel_rfl) ?_;unfold zUp;simp[hPb,hPl,hPr];refine qB tb (by simp[hPb]) (by simp) ?_;simp;refine qB tl (by simp[hPl]) (by simp) ?_;simp;refine qB tr (by simp[hPr]) (by simp) ?_;simp;refine zDj hcc (by simp[bF]) ?_;simp;refine mr hso [4] (by simp) ?_;simp;refine mr hco [4] (by simp) ?_;simp;refine mr hde [0,1,2,3,4] (by simp[hPb,hPl,hPr]) ?_;simp;by_cases hy:Y.filter g=[]
 .exact zC 1 (by simp[hy])
 .have h0:(Y.filter g).length≠0:=fun e=>hy (jBt e)
  exact zC 1 (by simp[h0,qD])
def zUd:K:=G [kZ 2 [ki,ki,ki]] (G [M 3 0,kb 4 [ki,ki,ki] [(1,1,(kc 1)),(2,1,(kt 3))],S 2 4 3] kr)
theorem qBM:ky f51 zUd:=m_ (by kernel_rfl)
def zUb:K:=G [kZ 4 [kl,kl]] (G [kC 11 51 [(kc 10)],kC 12 51 [(kc 4)],kb 13 kz1 [(0,3,(kt 11)),(3,1,(kc 2)),(5,3,(kt 12))],kZ 5 kz1,S 5 13 15] (Z (K.dops [(0,1,kC 14 51 [(kc 12)]),(1,1,kC 15 51 [(kc 11)]),(2,0,kb 16 kz1 [(0,3,(kt 15)),(3,1,(kc 0)),(4,1,(kc 9))]),(3,1,J 17 5 15),(4,0,kd 18 40 15 2 kz6 [(0,15,(kt 16)),(15,15,(kt 17))]),(5,0,kb 19 kz1 [(0,3,(kt 14)),(3,1,(kc 4)),(4,1,(kc 5)),(13,1,(kt 18))]),(6,0,kZ 6 kz1),(7,0,S 6 19 15)]) (Z (K.dops [(0,1,kC 20 51 [(kc 15)]),(1,1,J 21 6 15),(2,1,kC 22 51 [(kc 13)]),(3,0,M 23 1),(4,0,kb 24 kz1 [(0,3,(kt 22)),(3,1,(kc 0)),(4,1,(kt 23))]),(5,1,kC 25 51 [(kc 14)]),(6,0,M 26 0),(7,0,kb 27 kz1 [(0,3,(kt 25)),(3,1,(kc 0)),(4,1,(kt 26))]),(8,0,kd 28 40 15 3 kz4 [(0,15,(kt 21)),(15,15,(kt 24)),(30,15,(kt 27))]),(9,0,kb 29 kz1 [(0,3,(kt 20)),(3,1,(kc 5)),(13,1,(kt 28))]),(10,0,kZ 7 kz1),(11,0,S 7 29 15)]) (Z (K.dops [(0,1,kC 30 51 [(kc 2)]),(1,1,kC 31 51 [(kc 4)]),(2,0,⟨none,.build (some 32) kz5 [(0,3,(kt 31)),(3,1,(.const (.string ⟨#[120]⟩)))]⟩),(3,0,kd 33 74 11 1 kz5 [(0,11,(kt 32))]),(4,1,J 34 7 15),(5,0,⟨none,.build (some 35) kz0 [(0,3,(kt 30)),(3,1,(kc 2)),(7,1,(.const (.string ⟨#[102]⟩))),(8,1,(kt 33)),(14,15,(kt 34))]⟩),(6,0,kZ 8 kz0),(7,0,S 8 35 31)]) (G [kC 36 51 [(kc 17)],kC 37 51 [(kc 2)],kC 38 51 [(kc 16)],kC 39 51 [(kc 3)],kb 40 kz1 [(0,3,(kt 38)),(3,1,(kc 2)),(5,3,(kt 39))],kd 41 40 15 1 kz1 [(0,15,(kt 40))],kb 42 kz1 [(0,3,(kt 36)),(3,1,(kc 3)),(5,3,(kt 37)),(13,1,(kt 41))],kZ 9 kz1,
 S 9 42 15] (Z (K.dops [(0,1,kC 43 51 [(kc 1)]),(1,1,kC 44 51 [(kc 3)]),(2,0,⟨none,.build (some 45) kz5 [(0,3,(kt 44)),(3,1,(.const (.string ⟨#[97]⟩))),(9,1,(kc 2))]⟩),(3,0,kd 46 74 11 1 kz5 [(0,11,(kt 45))]),(4,1,J 47 9 15),(5,0,⟨none,.build (some 48) kz0 [(0,3,(kt 43)),(3,1,(kc 4)),(7,1,(.const (.string ⟨#[116]⟩))),(8,1,(kt 46)),(14,15,(kt 47))]⟩),(6,0,kZ 10 kz0),(7,0,S 10 48 31)]) (G [J 49 10 31,J 50 8 31,kd 51 42 31 2 kz8 [(0,31,(kt 49)),(31,31,(kt 50))],kb 52 [kl,kl] [(1,1,(kt 51))],S 4 52 2] kr)))))))
theorem qBK:ky f50 zUb:=m_ (by kernel_rfl)
def zPw:K:=G [kMb 0 false] (G [kC 11 50 [(kc 7),(kc 5)],kZ 1 [kl,kl],S 1 11 2] (G [J 12 1 2,kC 13 24 [(kt 12)],kZ 2 [kl,kl],S 2 13 2] (Z (K.dops [(0,1,J 15 1 2),(1,1,kC 16 50 [(kc 7),(kc 6)]),(2,1,J 17 2 2),(3,1,kC 18 51 [(kc 1)]),(4,1,kC 19 20 [(kt 15),(kt 16),(kt 17),(kt 18),(kc 50)]),(5,0,M 14 19),(6,0,kE 20 14 0),(7,0,kE 21 14 1),(8,0,kZ 3 [(.bool false),(.bool false)]),(9,0,S 3 20 2),(10,0,M 4 21)]) (Z (K.dops [(0,1,J 23 1 2),(1,1,kC 24 50 [(kc 8),(kc 5)]),(2,1,J 25 2 2),(3,1,kC 26 51 [(kc 1)]),(4,1,kC 27 20 [(kt 23),(kt 24),(kt 25),(kt 26),(kc 50)]),(5,0,M 22 27),(6,0,kE 28 22 0),(7,0,kE 29 22 1),(8,0,kZ 5 [(.bool false),(.bool false)]),(9,0,S 5 28 2),(10,0,M 6 29)]) (Z (K.dops [(0,1,J 31 1 2),(1,1,J 32 1 2),(2,1,J 33 1 2),(3,1,kC 34 51 [(kc 2)]),(4,1,kC 35 20 [(kt 31),(kt 32),(kt 33),(kt 34),(kc 50)]),(5,0,M 30 35),(6,0,kE 36 30 0),(7,0,kE 37 30 1),(8,0,kZ 7 [(.bool false),(.bool false)]),(9,0,S 7 36 2),(10,0,M 8 37)]) (Z (K.dops [(0,0,J 38 1 2),(1,0,kC 39 50 [(kc 8),(kc 5)]),(2,0,J 40 2 2),(3,0,kC 41 22 [(kt 38),(kt 39),(kt 40),(kc 50)]),(4,0,M 9 41)]) (Z (K.dops [(0,0,J 42 1 2),(1,0,kC 43 50 [(kc 8),(kc 5)]),(2,0,kC 44 50 [(kc 9),(kc 5)]),(3,0,kC 45 22 [(kt 42),(kt 43),(kt 44),(kc 50)]),(4,0,M 10 45)]) (G [M 46 4,kQi 47 46 0 false,M 48 47,T 48 true (M 49 6),T 48 true (kQi 50 49 0 false),kPf 51 48 50,M 52 51,T 52 true (J 53 3 2),⟨some (52,true),.build (some 54) [(.bool false),(.bool false)] []⟩,⟨some (52,true),.eqs (some 55) false [.b,.b] (kt 53) (kt 54)⟩,kPf 56 52 55,M 57 56,
 T 57 true (J 58 5 2),⟨some (57,true),.build (some 59) [(.bool false),(.bool false)] [(0,1,(.const (.bool true)))]⟩,⟨some (57,true),.eqs (some 60) false [.b,.b] (kt 58) (kt 59)⟩,kPf 61 57 60,M 62 61,T 62 true (M 63 8),T 62 true (kQi 64 63 6 false),kPf 65 62 64,M 66 65,T 66 true (M 67 9),T 66 true (kN 68 67),T 66 true (kQi 69 68 0 false),kPf 70 66 69,M 71 70,T 71 true (M 72 10),T 71 true (kC 73 51 [(kc 1)]),⟨some (71,true),.bslice (some 74) 32 3 1 [ki,ki,ki] [(0,3,(kt 73))]⟩,T 71 true (kC 75 12 [(kt 72),(kt 74)]),kPf 76 71 75,M 77 76,T 77 true (J 78 1 2),T 77 true (kC 79 13 [(kt 78)]),T 77 true (M 80 10),T 77 true (kC 81 12 [(kt 79),(kt 80)]),kPf 82 77 81,M 0 82] kr))))))))
theorem zVV:ky f18 zPw:=m_ (by kernel_rfl)
theorem zLq(n:Int):my 51 [int n] [] (.agg [int 0,int 1,int n]) []:=by refine zG func51 rfl qBM (rs:=[.cell 2 3 true]) (by kernel_rfl) ?_;unfold zUd;simp;exact zC 0 (by simp)
section
variable{U:St}{d:wD}{env:Env}{K':wK}{Qp:Value->wK}{KD:Env->Prop}
theorem kI0{n:Int}(hq:K' (env.put d (.agg [int 0,int 1,int n])) U):y6 prog 51 [int n] U (Go.Abs.outK d env K' Qp):=mu (zLq n) (by simp) hq
theorem kI1{n:Int}(hq:KD (env.put d (.agg [int 0,int 1,int n]))):zBw prog U d KD 51 [int n] env:=qB (zLq n) (by simp) (by simp) hq
theorem kIF{n:Int}(hq:KD (env.put d (.agg [int 0,int 1,int n]))):uK prog U d KD 51 [int n] env:=b9 (zLq n) (by simp) (by simp) hq
end
theorem zDk(n r:Int):my 50 [int n,int r] [] (.agg (zI (exT n r))) []:=by
 refine zG func50 rfl qBK (rs:=[.cell 4 2 true]) (by kernel_rfl) ?_;unfold zUb
 repeat (first|refine kI0 ?_|refine kI1 ?_|refine kIF ?_|simp|refine⟨by simp[maxLen],?_⟩)
 exact zC 1 (by simp[zI,exT,sH,tG,zQ1,zC6,zM,aD,jL,aC,zH,zQ,qC,zX,zS,sS,zV,kD,Typ.zero,Id.zero,Exp.zero])
theorem zNV(n r:Int):∀d∈(exT n r).defs,NmD d:=by
 intro d hd;simp only[exT,jA3,jAr,or_false]at hd;rcases hd with rfl|rfl
 .exact⟨Nat.le_of_ble_eq_true rfl,fun s hs=>by simp only[sH,jA3,jAr,or_false]at hs;subst hs;exact Nat.le_of_ble_eq_true rfl⟩
 .exact⟨Nat.le_of_ble_eq_true rfl,fun s hs=>by simp only[tG,jA3,jAr,or_false]at hs;subst hs;exact Nat.le_of_ble_eq_true rfl⟩
theorem zTm:my 20 [.agg (zI (exT 7 5)),.agg (zI (exT 7 6)),.agg (zI (aY (exT 7 5))),.agg (zX (kD 1)),int 50] [] (.tup [.agg [bl false,bl false],int 0]) []:=by have h:=oN (fC (n:=7) (r:=5) (by omega) (by omega)) (fC (n:=7) (r:=6) (by omega) (by omega)) (vC (fC (n:=7) (r:=5) (by omega) (by omega))) (bO 7 5) (bO 7 6) (rV (bO 7 5)) (kD 1) 50 (by omega) (by omega);rw[zSJ]at h;exact h
theorem zTn:my 20 [.agg (zI (exT 7 5)),.agg (zI (exT 8 5)),.agg (zI (aY (exT 7 5))),.agg (zX (kD 1)),int 50] [] (.tup [.agg [bl true,bl false],int 0]) []:=by have h:=oN (fC (n:=7) (r:=5) (by omega) (by omega)) (fC (n:=8) (r:=5) (by omega) (by omega)) (vC (fC (n:=7) (r:=5) (by omega) (by omega))) (bO 7 5) (bO 8 5) (rV (bO 7 5)) (kD 1) 50 (by omega) (by omega);rw[zM7]at h;exact h
theorem zTo:my 20 [.agg (zI (exT 7 5)),.agg (zI (exT 7 5)),.agg (zI (exT 7 5)),.agg (zX (kD 2)),int 50] [] (.tup [.agg [bl false,bl false],int 6]) []:=by have f:=fC (n:=7) (r:=5) (by omega) (by omega);have h:=oN f f f (bO 7 5) (bO 7 5) (bO 7 5) (kD 2) 50 (by omega) (by omega);rw[zSL]at h;exact h
theorem zTk:my 22 [.agg (zI (exT 7 5)),.agg (zI (exT 8 5)),.agg (zI (aY (exT 7 5))),int 50] [] (.sl 0 []) []:=by have h:=zAz (fC (n:=7) (r:=5) (by omega) (by omega)) (fC (n:=8) (r:=5) (by omega) (by omega)) (vC (fC (n:=7) (r:=5) (by omega) (by omega))) (bO 7 5) (bO 8 5) (rV (bO 7 5)) 50 (by omega) (by omega);rw[zSH]at h;exact h
theorem zTl:my 22 [.agg (zI (exT 7 5)),.agg (zI (exT 8 5)),.agg (zI (exT 9 5)),int 50] [] (.sl 1 [int 0,int 1,int 1]) []:=by have h:=zAz (fC (n:=7) (r:=5) (by omega) (by omega)) (fC (n:=8) (r:=5) (by omega) (by omega)) (fC (n:=9) (r:=5) (by omega) (by omega)) (bO 7 5) (bO 8 5) (bO 9 5) 50 (by omega) (by omega);rw[zSI]at h;exact h
theorem zTp:my 13 [.agg (zI (exT 7 5))] [] (.sl 1 [int 0,int 1,int 1]) []:=by have h:=uE (exT 7 5) (by simp[exT]);rw[mL]at h;exact h
theorem zEm:my 18 [] [] (bl true) []:=by
 have x0:=zDk 7 5;have x1:=zDk 7 6;have x2:=zDk 8 5;have x3:=zDk 9 5;have xr:=zHH (exT 7 5) (by simp[exT]) (by simp[exT,sH,tG]) (zNV 7 5);have o1:=zTm;have o2:=zTn;have o4:=zTo;have g1:=zTk;have g2:=zTl;have ts:=zTp;have ss:=zOS [kD 1] [kD 1];rw[decide_eq_true rfl]at ss;have hP:∀p:Prg,zI p=[.sl p.mods.length (qC p.mods),.sl p.defs.length (zV p.defs)]:=fun _=>rfl
 generalize exT 7 5=P0 at *
 generalize exT 7 6=P1 at *
 generalize exT 8 5=P2 at *
 generalize exT 9 5=P3 at *
 generalize aY P0=R0 at *
 refine zJ func18 rfl zVV (rs:=[.slot 0]) (by kernel_rfl) ?_;unfold zPw;simp;refine mu x0 (by simp[hP]) ?_;simp[hP];refine mu xr (by simp[hP]) ?_;simp[hP];refine b9 x1 (by simp) (by simp[hP]) ?_;simp[hP];refine kIF ?_;simp[hP];refine b9 o1 (by simp[hP,zX,kD]) (by simp) ?_;simp[hP];refine b9 x2 (by simp) (by simp[hP]) ?_;simp[hP];refine kIF ?_;simp[hP];refine b9 o2 (by simp[hP,zX,kD]) (by simp) ?_;simp[hP];refine kIF ?_;simp[hP];refine b9 o4 (by simp[hP,zX,kD]) (by simp) ?_;simp[hP];refine qB x2 (by simp) (by simp[hP]) ?_;simp[hP];refine qB g1 (by simp[hP]) (by simp) ?_;simp[hP];refine qB x2 (by simp) (by simp[hP]) ?_;simp[hP];refine qB x3 (by simp) (by simp[hP]) ?_;simp[hP];refine qB g2 (by simp[hP]) (by simp) ?_;simp[hP]
 intros
 refine kI0 ?_;simp[hP];refine mu ss (by simp[zS,kD]) ?_;simp[hP];refine mu ts (by simp[hP]) ?_;simp[hP];refine mu ss (by simp[zS,kD]) ?_;simp;exact zC 0 (by simp)
def qAJ:K:=G [kMb 8 false] (G [M 20 0,M 21 1,M 22 2,M 23 3,kC 24 19 [(kt 20),(kt 21),(kt 22),(kt 23)],M 19 24,kE 25 19 0,kE 26 19 1,kE 27 19 2,kE 28 19 3,kZ 9 [kl,kl],kZ 10 [kl,kl],kZ 11 [kl,kl],kZ 12 [ki,ki,ki],S 9 25 2,S 10 26 2,S 11 27 2,S 12 28 3] (G [J 30 9 2,J 31 10 2,J 32 11 2,J 33 12 3,kC 34 20 [(kt 30),(kt 31),(kt 32),(kt 33),(kc 5000)],M 29 34,kE 35 29 0,kE 36 29 1,kZ 13 [(.bool false),(.bool false)],S 13 35 2,M 14 36] (G [J 38 9 2,J 39 11 2,J 40 10 2,J 41 12 3,kC 42 20 [(kt 38),(kt 39),(kt 40),(kt 41),(kc 5000)],M 37 42,kE 43 37 0,kE 44 37 1,kZ 15 [(.bool false),(.bool false)],S 15 43 2,M 16 44] (G [J 46 9 2,J 47 9 2,J 48 11 2,J 49 12 3,kC 50 20 [(kt 46),(kt 47),(kt 48),(kt 49),(kc 5000)],M 45 50,kE 51 45 0,kE 52 45 1,kZ 17 [(.bool false),(.bool false)],S 17 51 2,M 18 52] (Z (G [M 53 14,kQi 54 53 0 false,M 55 16,kQi 56 55 0 false,⟨none,.eqv (some 57) true .b (kt 54) (kt 56)⟩,M 58 57,T 58 false (D 59 13 0),T 58 false (L 60 59 1),T 58 false (D 61 15 1),T 58 false (L 62 61 1),⟨some (58,false),.eqv (some 63) true .b (kt 60) (kt 62)⟩,kPt 64 58 63,M 65 64,T 65 false (D 66 13 1),T 65 false (L 67 66 1),T 65 false (D 68 15 0),T 65 false (L 69 68 1),⟨some (65,false),.eqv (some 70) true .b (kt 67) (kt 69)⟩,kPt 71 65 70] (Y 71 (G [kMb 8 false] kr) ks)) (Z (K.dops [(0,0,M 72 18),(1,0,kQi 73 72 0 true),(2,0,M 74 73),(3,0,T 74 false (D 75 17 0)),(4,0,T 74 false (L 76 75 1)),(5,0,T 74 false (kR 77 76)),(6,0,kPt 78 74 77),(7,0,M 79 78),(8,0,T 79 true (J 80 9 2)),(9,0,
 T 79 true (J 81 9 2)),(10,0,T 79 true (J 82 9 2)),(11,0,T 79 true (kC 83 22 [(kt 80),(kt 81),(kt 82),(kc 5000)])),(12,0,T 79 true (kN 84 83)),(13,0,T 79 true (J 85 9 2)),(14,0,T 79 true (kC 86 13 [(kt 85)])),(15,0,T 79 true (kN 87 86)),(16,0,T 79 true (kB 88 84 87 .leq)),(17,0,kPf 89 79 88),(18,0,M 90 89),(19,0,T 90 true (kC 91 18 [])),(20,0,kPf 92 90 91),(21,0,M 8 92)]) kr))))))
theorem qIu:ky f6 qAJ:=m_ (by kernel_rfl)
theorem qDu(l a b:wC)(how:Int)(hl:∀x∈l,w64 x=x)(ha:∀x∈a,w64 x=x)(hb:∀x∈b,w64 x=x)(hw:w64 how=how) :
 my 6 [.sl l.length (y3 l),.sl a.length (y3 a),.sl b.length (y3 b),int how] [] (bl true) []:=by
 obtain⟨P,hP,rS⟩:=zKf l a b how hl ha hb hw;have hlv:=zEm;have ht:=hP.tst hl how hw;obtain⟨sL,nL,tL⟩:=hP.tw hl a ha (oP a 3);obtain⟨sR,nR,tR⟩:=hP.tw hl b hb (oP b 3);have SB:=(hP.snd hl).B ht (jX (IntKind.i64.wrap (how.tdiv 7)) 12);have SL:=sL.L (tL.tst ht) (jX (IntKind.i64.wrap (how.tdiv 7)) 12);have SR:=sR.R (tR.tst ht) (jX (IntKind.i64.wrap (how.tdiv 7)) 12);unfold sdA at rS;generalize sdB P (zAm P how) (jX (IntKind.i64.wrap (how.tdiv 7)) 12)=B at *
 generalize sdL ⟨P.mods,bU a P.defs (oP a 3)⟩ (zAm P how) (jX (IntKind.i64.wrap (how.tdiv 7)) 12)=L at *
 generalize sdR ⟨P.mods,bU b P.defs (oP b 3)⟩ (zAm P how) (jX (IntKind.i64.wrap (how.tdiv 7)) 12)=R at *
 generalize zAm P how=t at *
 obtain⟨_,fB⟩:=SB.fit;obtain⟨_,fL⟩:=SL.fit;obtain⟨_,fR⟩:=SR.fit;have r1:=oN fB fL fR SB.fine SL.fine SR.fine t 5000 (by omega) (by omega);have r2:=oN fB fR fL SB.fine SR.fine SL.fine t 5000 (by omega) (by omega);have r3:=oN fB fB fR SB.fine SB.fine SR.fine t 5000 (by omega) (by omega);have r4:=zAz fB fB fB SB.fine SB.fine SB.fine 5000 (by omega) (by omega);have r5:=uE B (by have:=SB.le8;omega);obtain⟨q1,q2,q3⟩:=zMV B L R t 5000;have q4:=zT3 B R t 5000 (zNF _);have q5:=zNz B 5000;have hE:∀q:Prg,zI q=[.sl q.mods.length (qC q.mods),.sl q.defs.length (zV q.defs)]:=fun _=>rfl
 unfold tB at r1 r2 r3;generalize ofT B L R t 5000=o1 at *
 generalize ofT B R L t 5000=o2 at *
 generalize ofT B B R t 5000=o3 at *
 generalize fV B B B 5000=ag at *
 generalize j7 B=ts at *
 have q5':(ag.length:Int)<=ts.length:=by omega
 rw[q2,q3]at r1;generalize o2.1.1=y1 at *
 generalize o2.1.2=y2 at *
 rw[q4]at r3;generalize o3.1.2=z2 at *
 generalize o3.2=e3 at *
 generalize o2.2=e2 at *
 generalize o1.2=e1 at *
 refine zG func6 rfl qIu (rs:=[.slot 8]) (by kernel_rfl) ?_;unfold qAJ;simp -implicitDefEqProofs;refine mu rS (by simp -implicitDefEqProofs[hE,zX]) ?_;simp -implicitDefEqProofs[hE,zX];refine mu r1 (by simp -implicitDefEqProofs[hE,zX]) ?_;simp -implicitDefEqProofs[hE,zX];refine mu r2 (by simp -implicitDefEqProofs[hE,zX]) ?_;simp -implicitDefEqProofs[hE,zX];refine mu r3 (by simp -implicitDefEqProofs[hE,zX]) ?_;by_cases he:e1=0
 .have he2:=q1.1 he;by_cases he3:e3=0
  all_goals
   simp -implicitDefEqProofs[hE,zX,he,he2,he3];refine qB r4 (by simp -implicitDefEqProofs[hE]) (by simp -implicitDefEqProofs) ?_;simp -implicitDefEqProofs[hE]
   intros
   refine qB r5 (by simp -implicitDefEqProofs[hE]) (by simp -implicitDefEqProofs) ?_;simp -implicitDefEqProofs[q5']
   intros
   refine qB hlv (by simp -implicitDefEqProofs) (by simp -implicitDefEqProofs) ?_;simp -implicitDefEqProofs;exact zC 0 (by simp -implicitDefEqProofs)
 .have he2:¬e2=0:=fun h=>he (q1.2 h)
  by_cases he3:e3=0
  all_goals
   simp -implicitDefEqProofs[hE,zX,he,he2,he3];refine qB r4 (by simp -implicitDefEqProofs[hE]) (by simp -implicitDefEqProofs) ?_;simp -implicitDefEqProofs[hE]
   intros
   refine qB r5 (by simp -implicitDefEqProofs[hE]) (by simp -implicitDefEqProofs) ?_;simp -implicitDefEqProofs[q5']
   intros
   refine qB hlv (by simp -implicitDefEqProofs) (by simp -implicitDefEqProofs) ?_;simp -implicitDefEqProofs;exact zC 0 (by simp -implicitDefEqProofs)
def zPv:K:=(G [J 65 5 2,J 66 6 2,J 67 9 2,kC 68 22 [(kt 65),(kt 66),(kt 67),(kc 5000)],M 14 68] (Z (G [kMi 15 0] (K.block 0 (K.loop (Z (G [M 69 15,M 70 14,kN 71 70,kB 72 69 71 .lss] (Y 72 ks (K.exit 0))) (Z (K.block 1 (Z (K.dops [(0,1,J 76 5 2),(1,1,J 77 6 2),(2,1,J 78 9 2),(3,0,M 79 14),(4,0,M 80 15),(5,1,kX 81 79 80 3),(6,1,J 82 81 3),(7,1,kC 83 20 [(kt 76),(kt 77),(kt 78),(kt 82),(kc 5000)]),(8,0,M 75 83),(9,0,kE 84 75 0),(10,0,kE 85 75 1),(11,0,kZ 16 [(.bool false),(.bool false)]),(12,0,S 16 84 2),(13,0,M 17 85)]) (G [M 86 17,kQi 87 86 0 false] (Y 87 (G [kMb 4 false] kr) ks)))) (K.ops [M 73 15,kBi 74 73 1 .add,M 15 74])))))) (G [kC 88 18 [],M 4 88] kr)))
def qAI:K:=G [kMb 4 false] (G [M 19 0,M 20 1,kC 21 19 [(kt 19),(kt 20),(.const kl),(kc 77)],M 18 21,kE 22 18 0,kE 23 18 1,kE 24 18 2,kE 25 18 3,kZ 5 [kl,kl],kZ 6 [kl,kl],kZ 7 [kl,kl],kZ 8 [ki,ki,ki],S 5 22 2,S 6 23 2,S 7 24 2,S 8 25 3] (G [J 26 5 2,kC 27 24 [(kt 26)],kZ 9 [kl,kl],S 9 27 2] (G [J 29 5 2,J 30 6 2,J 31 9 2,J 32 8 3,kC 33 20 [(kt 29),(kt 30),(kt 31),(kt 32),(kc 5000)],M 28 33,kE 34 28 0,kE 35 28 1,kZ 10 [(.bool false),(.bool false)],S 10 34 2,M 11 35] (G [J 37 5 2,J 38 9 2,J 39 6 2,J 40 8 3,kC 41 20 [(kt 37),(kt 38),(kt 39),(kt 40),(kc 5000)],M 36 41,kE 42 36 0,kE 43 36 1,kZ 12 [(.bool false),(.bool false)],S 12 42 2,M 13 43] (Z (G [M 44 11,kQi 45 44 0 false,M 46 45,T 46 true (D 47 10 1),T 46 true (L 48 47 1),kPf 49 46 48,M 50 49,T 50 false (M 51 13),T 50 false (kQi 52 51 0 false),T 50 false (M 53 52),T 53 true (D 54 12 0),T 53 true (L 55 54 1),T 50 false (kPf 56 53 55),kPt 57 50 56,M 58 57,T 58 false (J 59 5 2),T 58 false (J 60 9 2),T 58 false (kC 61 25 [(kt 59),(kt 60)]),T 58 false (kN 62 61),T 58 false (kQi 63 62 0 true),kPt 64 58 63] (Y 64 (G [kMb 4 false] kr) ks)) (K.wk zPv))))))
theorem qIt:ky f7 qAI:=m_ (by kernel_rfl)
theorem zQF(p:Prg)(t:Id):bQ (aY p) t=bQ p t:=by rw[zHn,zHn,zIG];cases qM p.defs t<;>rfl
theorem qKZ{P L Q:Prg}(ag:wG)(e:Id->Int)(y:Id->Bool×Bool)(hag:ag.length<=1000)(hlv:my 18 [] [] (bl true) [])
 (r4:my 22 [.agg (zI P),.agg (zI L),.agg (zI Q),int 5000] [] (.sl ag.length (zS ag)) [])
 (r5:∀x,my 20 [.agg (zI P),.agg (zI L),.agg (zI Q),.agg (zX x),int 5000] [] (.tup [.agg [bl (y x).1,bl (y x).2],int (e x)]) [])(he:∀x∈ag,e x≠0) :
 wpK prog 0 zPv (fin [RS.slot 4] (sM 0 (bl true) [])) (jR [(5,.ptr 0 0),(6,.ptr 1 0),(9,.ptr 2 0)]) [.box (zI P),.box (zI L),.box (zI Q)]:=by
 have hE:∀q:Prg,zI q=[.sl q.mods.length (qC q.mods),.sl q.defs.length (zV q.defs)]:=fun _=>rfl
 unfold zPv;simp[hE];refine mu r4 (by simp[hE]) ?_;simp;refine qH (S:=Nat) (fun i=>[(5,.ptr 0 0),(6,.ptr 1 0),(9,.ptr 2 0),(14,.sl ag.length (zS ag)),(15,int i)]) (fun i=>[.box (zI P),.box (zI L),.box (zI Q)]) (fun i=>i<=ag.length) (fun i=>ag.length-i) 0 (by simp)
  (mw [0,1,2] 0 (by rfl) (by simp[hE])) ?_
 intro i hi;by_cases h:i<ag.length
 .have hcd:=qV h;have hne:¬ag=[]:=fun e=>by rw[e]at h;simp at h
  have hw:=yU i (by omega);have hx:=he _ (jA0 h);have r:=r5 ag[i];generalize e ag[i]=ex at *
  generalize y ag[i]=yx at *
  generalize ag[i]=x at *
  simp[hE,h,hcd,hne]
  intros
  refine b9 r (by simp[hE,zX]) (by simp) ?_;simp[hx];exact zN (i+1) h (by omega) (mw [0,1,2] 0 (by rfl) (by simp[hE,hw]))
 .have hie:i=ag.length:=by omega
  subst hie;simp[hE]
  intros
  refine mu hlv (by simp) ?_;simp;exact zC 0 (by simp)
theorem qDt(l a:wC)(hl:∀x∈l,w64 x=x)(ha:∀x∈a,w64 x=x) :
 my 7 [.sl l.length (y3 l),.sl a.length (y3 a)] [] (bl true) []:=by
 obtain⟨P,hP,rS⟩:=zKf l a [] 77 hl ha (by simp -implicitDefEqProofs) (by decide);have hlv:=zEm;obtain⟨sL,nL,tL⟩:=hP.tw hl a ha (oP a 3);have SP:=hP.snd hl;have hn:jX (IntKind.i64.wrap ((77:Int).tdiv 7)) 12=11:=by decide
 unfold sdA at rS;rw[hn,show sdB P (zAm P 77) 11=P from rfl,show sdL ⟨P.mods,bU a P.defs (oP a 3)⟩ (zAm P 77) 11=⟨P.mods,bU a P.defs (oP a 3)⟩ from rfl,show sdR ⟨P.mods,bU [] P.defs (oP [] 3)⟩ (zAm P 77) 11=⟨P.mods,bU [] P.defs (oP [] 3)⟩ from rfl]at rS;have rn:=zHH P SP.le8 (fun d hd=>by have:=(SP.fine.slots d hd).2;omega) hP.names;have SQ:=SP.ren;have hc:=(zCk P).1;have hh:=zQF P;generalize (⟨P.mods,bU a P.defs (oP a 3)⟩:Prg)=L at *
 generalize (⟨P.mods,bU [] P.defs (oP [] 3)⟩:Prg)=R at *
 generalize aY P=Q at *
 generalize zAm P 77=t at *
 obtain⟨_,fP⟩:=SP.fit;obtain⟨_,fL⟩:=sL.fit;obtain⟨_,fQ⟩:=SQ.fit;have r1:=oN fP fL fQ SP.fine sL.fine SQ.fine t 5000 (by omega) (by omega);have r2:=oN fP fQ fL SP.fine SQ.fine sL.fine t 5000 (by omega) (by omega);have r3:=xG P Q SP.fine.small.1 SQ.fine.small.1 SP.fine.small.2.1 SQ.fine.small.2.1;have r4:=zAz fP fL fQ SP.fine sL.fine SQ.fine 5000 (by omega) (by omega);have r5:=fun x=>oN fP fL fQ SP.fine sL.fine SQ.fine x 5000 (by omega) (by omega)
 have q1:=zMU P L Q t 5000 hc (hh t);have q2:=(zMV P L Q t 5000).2.2;rw[q1]at q2;have q3:=zIe P L Q 5000 hc hh;rw[hc]at r3;have hE:∀q:Prg,zI q=[.sl q.mods.length (qC q.mods),.sl q.defs.length (zV q.defs)]:=fun _=>rfl
 unfold tB at r1 r2 r5;rw[q1]at r1;rw[<-q2]at r2;have hagl:(fV P L Q 5000).length<=1000:=by
  have h1:=jBg (lS P L Q 5000) (aP (j7 P++j7 L++j7 Q));have h2:=cI (j7 P++j7 L++j7 Q);have h3:∀q:Prg,q.defs.length<=100->(j7 q).length<=100:=fun q hq=>by rw[j7,(cQ _).length_eq];have:=oA q.defs;change (tsD _).length<=_;omega
  have h4:=h3 P SP.le8;have h5:=h3 L sL.le8;have h6:=h3 Q SQ.le8;simp only[jA4]at h2;unfold fV;omega
 generalize (ofT P L Q t 5000).2=e1 at *
 generalize (ofT P Q L t 5000).2=e2 at *
 generalize (ofT P L Q t 5000).1.1=y1 at *
 generalize (ofT P Q L t 5000).1.2=y2 at *
 generalize fV P L Q 5000=ag at *
 refine zG func7 rfl qIt (rs:=[.slot 4]) (by kernel_rfl) ?_;unfold qAI;simp -implicitDefEqProofs;refine mu rS (by simp -implicitDefEqProofs[show y3 []=[] from rfl,hE,zX]) ?_;simp -implicitDefEqProofs[hE,zX];refine mu rn (by simp -implicitDefEqProofs[hE]) ?_;simp -implicitDefEqProofs[hE,zX];refine mu r1 (by simp -implicitDefEqProofs[hE,zX]) ?_;simp -implicitDefEqProofs[hE,zX];refine mu r2 (by simp -implicitDefEqProofs[hE,zX]) ?_;have hT:=qKZ (P:=P) (L:=L) (Q:=Q) ag (fun x=>(ofT P L Q x 5000).2) (fun x=>(ofT P L Q x 5000).1) hagl hlv r4 r5 q3;by_cases he:e1=0
 all_goals
  by_cases he2:e2=0
  all_goals
   simp -implicitDefEqProofs[hE,zX,he,he2];refine mu r3 (by simp -implicitDefEqProofs[hE]) ?_;simp -implicitDefEqProofs[hE,zX];refine⟨_,_,kf [0,1,4] 0 (by rfl) ?_ ?_,hT⟩
   .simp -implicitDefEqProofs[hE]
   .simp -implicitDefEqProofs
end Go.Proofs.YtolkhapmieigcaaGreatDoor
