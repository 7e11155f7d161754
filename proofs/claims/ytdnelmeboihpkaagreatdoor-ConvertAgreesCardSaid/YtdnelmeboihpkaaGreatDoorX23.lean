/- The examples of the law on converters hold. -/
import Derived.Test.YtdnelmeboihpkaaGreatDoorX22
set_option linter.unusedVariables false
set_option maxHeartbeats 8000000
set_option maxRecDepth 100000
set_option linter.unusedSimpArgs false
open Go.Proofs.Tryz
namespace Go.Proofs.YtdnelmeboihpkaaGreatDoor
open Go.Abs
theorem zV0(a b:wB)(ha:a.length<=1000):mv 23 [.sl a.length (yH a),.sl b.length (yH b)] [] (bl (decide (a=b))) []:=by
 refine ml [] [.slot 4] func23 (by kernel_rfl) ?_
 (conv in kq _ _=>cbv)
 by_cases hab:a.length=b.length
 .have hab':(a.length:Int)=b.length:=by omega
  simp[hab];intro hlb;refine qK (S:=Nat) (fun i=>[(0,.sl a.length (yH a)),(1,.sl b.length (yH b)),(5,int i)]) (fun s=>[]) (fun i=>i<=a.length/\a.take i=b.take i) (fun i=>a.length-i) 0 (by simp)
   (mu [] 0 (by rfl) (by simp[hab])) ?_
  rintro i ⟨hi,hn⟩;by_cases h:i<a.length
  .have hb:i<b.length:=by omega
   have hpa:=cO h;have hpb:=cO hb;have hane:¬a=[]:=fun e=>by rw[e]at h;simp at h
   have hbne:¬b=[]:=fun e=>by rw[e]at hb;simp at hb
   have hw:=z8 h (show a.length<=maxLen by simp[maxLen];omega);by_cases hx:a[i]=b[i]
   .simp[h,hb,hpa,hpb,hane,hbne,hx];intro _;refine zO (i+1) ⟨h,?_⟩ (by omega) (mu [] 0 (by rfl) (by simp[hw]));rw[jA6 h,jA6 hb,hn,hx]
   .have hne:a≠b:=fun e=>hx (by subst e;rfl)
    simp[h,hb,hpa,hpb,hane,hbne,hx];exact fun _=>zA 0 (by simp[hne])
  .have:i=a.length:=by omega
   subst this;simp;have:a=b:=by rw[jAt,hab,jAt]at hn;exact hn
   exact fun _=>zA 0 (by simp[this])
 .have hne:a≠b:=fun e=>hab (by rw[e])
  have hab':¬(a.length:Int)=b.length:=by omega
  simp[hab'];exact fun _ _=>zA 0 (by simp[hne])
def zHR:K:=(Z (G [M 53 4,kQi 54 53 0 true,M 55 54,T 55 false (M 56 6),T 55 false (kQi 57 56 0 true),kPt 58 55 57,M 59 58,T 59 false (M 60 9),T 59 false (kQi 61 60 0 true),kPt 62 59 61,M 63 62,T 63 false (M 64 12),T 63 false (kQi 65 64 19 true),kPt 66 63 65,M 67 66,T 67 false (M 68 5),T 67 false (kN 69 68),T 67 false (kBi 70 69 0 .gtr),kPt 71 67 70,M 72 71,T 72 false (M 73 8),T 72 false (kQi 74 73 10 true),kPt 75 72 74] (Y 75 (G [kMb 0 false] kr) ks)) (Z (K.dops [(0,0,J 76 7 3),(1,0,kC 77 51 [(kc 5)]),(2,0,kC 78 18 [(kt 76),(kt 77)]),(3,0,kQi 79 78 0 false),(4,0,M 80 79),(5,0,T 80 true (J 81 10 3)),(6,0,T 80 true (kC 82 51 [(kc (-1))])),(7,0,T 80 true (kC 83 18 [(kt 81),(kt 82)])),(8,0,T 80 true (kQi 84 83 0 false)),(9,0,kPf 85 80 84),(10,0,M 13 85)]) (Z (K.dops [(0,0,M 86 13),(1,0,M 87 86),(2,0,T 87 true (M 88 3)),(3,0,T 87 true (M 89 2)),(4,0,T 87 true (kC 90 22 [(kt 88),(kt 89)])),(5,0,kPf 91 87 90),(6,0,M 92 91),(7,0,T 92 true (M 93 11)),(8,0,T 92 true (M 94 2)),(9,0,T 92 true (kC 95 22 [(kt 93),(kt 94)])),(10,0,kPf 96 92 95),(11,0,M 97 96),(12,0,T 97 true (J 98 1 2)),(13,0,T 97 true (kC 99 50 [(kc 2)])),(14,0,T 97 true (kC 100 24 [(kt 98),(kt 99),(kc 0)])),(15,0,⟨some (97,true),.bslice (some 101) 3 1 2 [ki,ki] [(0,1,(kc 0)),(1,1,(kc 1))]⟩),(16,0,T 97 true (kC 102 23 [(kt 100),(kt 101)])),(17,0,kPf 103 97 102),(18,0,M 104 103),(19,0,T 104 true (J 105 1 2)),(20,0,T 104 true (kC 106 50 [(kc 1)])),(21,0,T 104 true (kC 107 24 [(kt 105),(kt 106),(kc 1)])),(22,0,
 T 104 true (kN 108 107)),(23,0,T 104 true (kQi 109 108 0 false)),(24,0,kPf 110 104 109),(25,0,M 0 110)]) kr)))
def zQ8:K:=G [kMb 0 false] (G [kC 14 49 [],kZ 1 [kl,kl],S 1 14 2] (G [kC 15 50 [(kc 1)],kC 16 50 [(kc 2)],kd 17 31 3 2 [ki,ki,ki,ki,ki,ki] [(0,3,(kt 15)),(3,3,(kt 16))],kC 18 50 [(kc 3)],kd 19 31 3 1 [ki,ki,ki] [(0,3,(kt 18))],kd 20 28 1 2 [kl,kl] [(0,1,(kt 17)),(1,1,(kt 19))],M 2 20] (Z (K.dops [(0,0,J 22 1 2),(1,0,kC 23 50 [(kc 10)]),(2,0,kC 24 50 [(kc 12)]),(3,0,kC 25 20 [(kt 22),(kt 23),(kt 24)]),(4,0,M 21 25),(5,0,kE 26 21 0),(6,0,kE 27 21 1),(7,0,M 3 26),(8,0,M 4 27)]) (Z (K.dops [(0,0,J 29 1 2),(1,0,kC 30 50 [(kc 12)]),(2,0,kC 31 50 [(kc 10)]),(3,0,kC 32 20 [(kt 29),(kt 30),(kt 31)]),(4,0,M 28 32),(5,0,kE 33 28 0),(6,0,kE 34 28 1),(7,0,M 5 33),(8,0,M 6 34)]) (Z (K.dops [(0,1,J 36 1 2),(1,0,M 37 2),(2,1,kXi 38 37 1 0),(3,1,L 39 38 1),(4,1,kC 40 51 [(kc 5)]),(5,1,kC 41 16 [(kt 36),(kt 39),(kt 40),(kc 100)]),(6,0,M 35 41),(7,0,kE 42 35 0),(8,0,kE 43 35 1),(9,0,kE 44 35 2),(10,0,kZ 7 [ki,ki,kl]),(11,0,S 7 42 3),(12,0,M 8 43),(13,0,M 9 44)]) (Z (K.dops [(0,1,J 46 1 2),(1,1,kC 47 50 [(kc 10)]),(2,1,kC 48 50 [(kc 12)]),(3,1,kC 49 26 [(kt 46),(kt 47),(kt 48),(kc 1),(kc 100)]),(4,0,M 45 49),(5,0,kE 50 45 0),(6,0,kE 51 45 1),(7,0,kE 52 45 2),(8,0,kZ 10 [ki,ki,kl]),(9,0,S 10 50 3),(10,0,M 11 51),(11,0,M 12 52)]) (K.wk zHR)))))))
theorem zYs:kw f19 zQ8:=my (by kernel_rfl)
theorem zZe:Sml bE:=by unfold Sml;decide
theorem zZ2:mv 20 [.agg (zP bE),.agg (zK (iD 10)),.agg (zK (iD 12))] [] (.tup [.sl 2 (jR lI),int 0]) []:=by have:=zEm zBz (iD 10) (iD 12) (by rw[vG];decide);unfold eE at this;rw[vG,if_pos (by decide)]at this;exact this
theorem zZ3:mv 20 [.agg (zP bE),.agg (zK (iD 12)),.agg (zK (iD 10))] [] (.tup [.sl 0 [],int 0]) []:=by have:=zEm zBz (iD 12) (iD 10) (by rw[zNK];decide);unfold eE at this;rw[zNK,if_pos (by decide)]at this;exact this
theorem zZz:mv 16 [.agg (zP bE),.sl 2 (zT [iD 1,iD 2]),.agg (zF (uO 5)),int 100] [] (.tup [.agg (zF (uO 5)),int 10,int 0]) []:=by have:=zQT zBz [iD 1,iD 2] (by decide) (uO 5) (by decide) 100 (by omega) (by omega);rw[zRQ]at this;exact this
theorem zZy:mv 26 [.agg (zP bE),.agg (zK (iD 10)),.agg (zK (iD 12)),int 1,int 100] [] (.tup [.agg (zF (uO (-1))),.sl 2 (jR lI),int 19]) []:=by have:=zJc zBz zZe (iD 10) (iD 12) (by rw[vG];decide) (by rw[vG];decide) 1 100 (by omega) (by omega) (zCf _ _ _);rw[zRP]at this;exact this
theorem zZ1:mv 24 [.agg (zP bE),.agg (zK (iD 2)),int 0] [] (.sl 2 (yH [0,1])) []:=by have:=zGE bE (by decide) (iD 2) 0;rw[zU6]at this;exact this
theorem zZ0:mv 24 [.agg (zP bE),.agg (zK (iD 1)),int 1] [] (.sl 0 []) []:=by have:=zGE bE (by decide) (iD 1) 1;rw[zU5]at this;exact this
theorem qGA:wpK prog 0 zHR (fin [RS.slot 0] (uQ 0 (bl true) [])) (qV [(1,.ptr 0 0),(2,.sl 2 (jR lI)),(3,.sl 2 (jR lI)),(4,int 0),(5,.sl 0 []),(6,int 0),(7,.ptr 1 0),(8,int 10),(9,int 0),(10,.ptr 2 0),(11,.sl 2 (jR lI)),(12,int 19)]) [.box (zP bE),.box (zF (uO 5)),.box (zF (uO (-1)))]:=by
 have hP:zP bE=[.sl bE.mods.length (qH bE.mods),.sl bE.defs.length (z6 bE.defs)]:=rfl;have f2:=zZ1;have f1:=zZ0;generalize bE=P at *
 have c1:=dO (uO 5) (uO 5);have c2:=dO (uO (-1)) (uO (-1));rw[mD]at c1 c2;have s1:mv 22 [.sl 2 (jR lI),.sl 2 (jR lI)] [] (bl true) []:=by have:=zOo lI lI (by decide);rw[show decide (lI=lI)=true from decide_eq_true rfl]at this;exact this
 have s2:mv 23 [.sl 2 (yH [0,1]),.sl 2 (yH [0,1])] [] (bl true) []:=by have:=zV0 [0,1] [0,1] (by decide);rw[show decide ([0,1]=([0,1]:wB))=true from decide_eq_true rfl]at this;exact this
 unfold zHR;simp[hP,zF];refine z7 (zFq 5) (by simp) (by simp[zF]) ?_
 try simp[zF]
 refine z7 c1 (by simp[zF]) (by simp) ?_
 try simp[zF]
 refine z7 (zFq (-1)) (by simp) (by simp[zF]) ?_
 try simp[zF]
 refine z7 c2 (by simp[zF]) (by simp) ?_
 try simp[zF]
 refine z7 s1 (by simp) (by simp) ?_
 try simp
 refine z7 s1 (by simp) (by simp) ?_
 try simp
 refine z7 (lK 2) (by simp) (by simp[zK]) ?_
 try simp[zK]
 refine z7 f2 (by simp[hP,zK]) (by simp) ?_
 try simp
 refine z7 s2 (by simp[yH]) (by simp) ?_
 try simp
 refine z7 (lK 1) (by simp) (by simp[zK]) ?_
 try simp[zK]
 refine z7 f1 (by simp[hP,zK]) (by simp) ?_
 try simp
 exact zA 0 (by simp)
theorem zM4:mv 19 [] [] (bl true) []:=by
 have hP:zP bE=[.sl bE.mods.length (qH bE.mods),.sl bE.defs.length (z6 bE.defs)]:=rfl;have hx:=zU2;have p1:=zZ2;have p2:=zZ3;have pa:=zZz;have pg:=zZy;have hT:=qGA;generalize bE=P at *
 refine zN func19 rfl zYs (rs:=[.slot 0]) (by kernel_rfl) ?_;unfold zQ8;simp;refine mq hx (by simp[hP]) ?_;simp[hP];refine mq (lK 1) (by simp[zK]) ?_;simp;refine mq (lK 2) (by simp[zK]) ?_;simp[zK];refine mq (lK 3) (by simp[zK]) ?_;simp[zK];refine z7 (lK 10) (by simp[hP,zK,zT]) (by simp[zK,zT]) ?_
 try simp[zK,zF]
 refine z7 (lK 12) (by simp[hP,zK,zT]) (by simp[zK,zT]) ?_
 try simp[zK,zF]
 refine z7 (p1) (by simp[hP,zK,zT]) (by simp[zK,zT]) ?_
 try simp[zK,zF]
 refine z7 (lK 12) (by simp[hP,zK,zT]) (by simp[zK,zT]) ?_
 try simp[zK,zF]
 refine z7 (lK 10) (by simp[hP,zK,zT]) (by simp[zK,zT]) ?_
 try simp[zK,zF]
 refine z7 (p2) (by simp[hP,zK,zT]) (by simp[zK,zT]) ?_
 try simp[zK,zF]
 refine yX (zFq 5) (by simp[hP,zK,zT,zF]) (by simp[zK,zT,zF]) ?_
 try simp[zK,zF]
 refine yX (pa) (by simp[hP,zK,zT,zF]) (by simp[zK,zT,zF]) ?_
 try simp[zK,zF]
 refine yX (lK 10) (by simp[hP,zK,zT]) (by simp[zK,zT]) ?_
 try simp[zK,zF]
 refine yX (lK 12) (by simp[hP,zK,zT]) (by simp[zK,zT]) ?_
 try simp[zK,zF]
 refine yX (pg) (by simp[hP,zK,zT,zF]) (by simp[zK,zT,zF]) ?_
 try simp[zK,zF]
 refine⟨_,_,m_ [0,1,2] 0 (by rfl) ?_ ?_,hT⟩
 .simp[hP,zF]
 .simp[lI,jR,zT]
theorem zMk{l:wB}(hl:∀x∈l,w64 x=x):(yA (vK l)).length<=7:=by
 have h1:(yA (vK l)).length=(iF (vK l)).length:=by rw[<-m7 (zGY hl)];exact(gQ _).length_eq
 rw[h1];have h2:iF (vK l)=(aM l).filterMap yD:=rfl;rw[h2];unfold aM;rw[List.filterMap_append,jA5];have h3:((yT l (yZ l) ⟨1,40⟩).1.filterMap yD)=[]:=by rw[List.filterMap_eq_nil_iff];intro a ha;have:=(s4 hl a ha).kind;unfold yD;rw[if_neg (by omega)]
 rw[h3];have h4:=jDe yD (a7 l (yT l (yZ l) ⟨1,40⟩).1 (gN l (yT l (yZ l) ⟨1,40⟩).2 8).toNat (yT l (yZ l) ⟨1,40⟩).2.tick).1;rw[iP]at h4;obtain⟨v0,v1⟩:=eB hl (yT l (yZ l) ⟨1,40⟩).2 (n:=8) (by omega);simp only[jBe];omega
theorem zMH{l:wB}(hl:∀x∈l,w64 x=x){P:Prg}(h:PrgOk l P):(yA P).length<=7:=by
 have h1:(yA P).length=(iF P).length:=by rw[<-m7 (h.fit hl)];exact(gQ _).length_eq
 have h5:=h.len5;have h0:∃d ds,P.defs=d::ds/\d.kind=0:=by
  have hh:=h.heads;cases hd:P.defs with
  |nil=>rw[hd]at h5;simp at h5
  |cons d ds =>
   refine⟨d,ds,rfl,?_⟩;have hx:(P.defs.map Dfn.hd)[0]?=(hsV l (nmV l))[0]?:=by rw[hh]
   rw[hd]at hx;simp only[jAg,jB3]at hx;have hl0:0<(qJ l (nmV l:Int)).length:=by have:=(cF l (nmV l:Int)).1;omega
   have hp:(qJ l (nmV l:Int))[0]'hl0=dN l (nmV l):=by simp[qJ]
   have hg:=oJ (nmV l:Int) (qJ l (nmV l)) hl0;rw[hp]at hg;rw[jA1 (by simpa using hl0),hg]at hx;exact congrArg Hd.kind (jB0 hx)
 obtain⟨d,ds,hd,hk⟩:=h0;have h2:iF P=P.defs.filterMap yD:=rfl;rw[h1,h2,hd];have h3:yD d=none:=by unfold yD;rw[if_neg (by omega)]
 rw[List.filterMap_cons,h3];have:=jDe yD ds;rw[hd]at h5;simp only[jAb]at h5;simp only;omega
theorem zMJ(l:wB)(hl:∀x∈l,w64 x=x)(which:Int):∃(P:Prg) (hs:wP),Fit P hs/\1<=P.defs.length/\(yA P).length<=7/\mv 10 [.sl l.length (yH l),int which] [] (.agg (zP P)) []:=by
 have hw:aN which 5=aN which 5:=rfl;have ra:=lZ which 5 (by omega);by_cases h:aN which 5=0
 .obtain⟨P,hP,rP⟩:=zVs l hl;have h5:=hP.len5;refine⟨P,_,hP.fit hl,by omega,zMH hl hP,?_⟩;refine ml [] [.cell 4 2 true] func10 (by kernel_rfl) ?_
  (conv in kq _ _=>cbv)
  simp;refine mq ra (by simp) ?_;simp[h];refine mq rP (by simp[zP]) ?_;simp[zP];exact zA 0 (by simp[zP])
 .have rP:=zSh hl;have h2:=zCA hl;refine⟨vK l,_,zGY hl,by show 1<=(aM l).length;omega,zMk hl,?_⟩;refine ml [] [.cell 4 2 true] func10 (by kernel_rfl) ?_
  (conv in kq _ _=>cbv)
  simp;refine mq ra (by simp) ?_;simp[h];refine mq rP (by simp[zP]) ?_;simp[zP];exact zA 0 (by simp[zP])
def aE(k:wB)(LS:List wF)(i:Nat)(at_ fuel:Int):List (Nat×A):=[(2,.sl k.length (yH k)),(4,int at_),(5,int fuel),(13,.ptr 0 0),(16,.sl LS.length (jR LS)),(17,int i)]
section
variable{p:Prg}{hs:wP}(hf:Fit p hs){k:wB}{LS:List wF}{i:Nat}{at_ fuel:Int}
include hf
end
theorem zL5(p:Prg)(a b:Id)(most fuel:Int):(cQ p a b most fuel).2.1.length<=2:=by
 unfold cQ;split
 .split
  .simp
  .split<;>simp
 .simp
theorem qN4(l:wB)(which a b most fuel:Int)(hl:∀x∈l,w64 x=x)(_:w64 which=which)(ha:w64 a=a)(hb:w64 b=b)(_:w64 most=most)(hfu:w64 fuel=fuel) :
 mv 5 [.sl l.length (yH l),int which,int a,int b,int most,int fuel] [] (bl true) []:=by
 obtain⟨p,hs,hf,hd1,hed,rP⟩:=zMJ l hl which;have h8:=hf.len8;have hlv:=zM4;have hsm:Sml p:=fun d hd=>by have:=(hf.slots d hd).2.1;omega
 have hP:=eP p;obtain⟨n4,hn4⟩:∃n:Nat,n=if p.defs.length<4 then p.defs.length else 4:=⟨_,rfl⟩
 have hn0:0<n4/\n4<=p.defs.length:=by rw[hn4];split<;>omega
 have ra:=lZ a n4 (by omega);have rb:=lZ b p.defs.length (by omega);have rm:=lZ most 4 (by omega);have rf:=lZ fuel 50 (by omega);obtain⟨a0,a1⟩:=gT (k:=(n4:Int)) ha (by omega);obtain⟨b0,b1⟩:=gT (k:=(p.defs.length:Int)) hb (by omega);obtain⟨f0,f1⟩:=gT (k:=50) hfu (by omega);obtain⟨x,hx⟩:∃x:Nat,aN a n4=x:=⟨(aN a n4).toNat,by omega⟩;obtain⟨y,hy⟩:∃y:Nat,aN b p.defs.length=y:=⟨(aN b p.defs.length).toNat,by omega⟩;rw[hx]at ra a1;rw[hy]at rb b1;have hxl:x<p.defs.length:=by omega
 have hyl:y<p.defs.length:=by omega
 have hne:¬p.defs=[]:=fun e=>by rw[e]at hxl;simp at hxl
 have hxd:=yG hxl;have hyd:=yG hyl;generalize p.defs[x]=dx at hxd;generalize p.defs[y]=dy at hyd;obtain⟨m1,hm1⟩:∃m1:Int,m1=aN most 4:=⟨_,rfl⟩;rw[<-hm1]at rm;clear hm1;obtain⟨m2,hm2⟩:∃m2:Int,m2=IntKind.i64.wrap (65*most.tmod 2):=⟨_,rfl⟩;obtain⟨f2,hf2⟩:∃f2:Int,f2=aN fuel 50:=⟨_,rfl⟩;rw[<-hf2]at rf f0 f1;clear hf2;have h64:(yM p dx.id dy.id).length<=64:=zPL hed dx.id dy.id _;have hql:∀q∈yM p dx.id dy.id,q.length<=1000000:=fun q hq=>by have h1:=zC3 _ _ _ q hq;omega
 obtain⟨MS,hMS⟩:∃MS:wB,MS=[m1,m2]:=⟨_,rfl⟩;have hM2:MS.length=2:=by rw[hMS];rfl
 obtain⟨FS,hFS⟩:∃FS:wB,FS=[1000,f2]:=⟨_,rfl⟩;have hF2:FS.length=2:=by rw[hFS];rfl
 have hFr:∀f∈FS,0<=f/\f<=1000:=by rw[hFS];intro f h;simp only[jA3,jB,or_false]at h;rcases h with rfl|rfl<;>omega
 refine ml [(2,[0,1,3,4,5,7,8,9,10]),(3,[0,1,3,4,5,6,7,8,9]),(12,[0,1,2,5,6,9,10,11]),(13,[0,1,2,5,6,9,10,11])] [.slot 12] func5 (by kernel_rfl) ?_
 (conv in kq _ _=>cbv)
 simp;refine mq rP (by simp[hP]) ?_;simp[hP]
 try intro _
 have hmm:(if (p.defs.length:Int)<4 then (p.defs.length:Int)else 4)=n4:=by rw[hn4];split<;>split<;>omega
 refine yX ra (by simp[hmm]) (by simp) ?_;simp[hxl,hne,hxd,zJ];refine yX rb (by simp) (by simp) ?_;simp[hyl,hne,hyd,zJ];refine mq rm (by simp) ?_;simp[<-hm2];refine mq rf (by simp) ?_;simp;refine qK (S:=Nat) (fun i=>[(13,.ptr 0 0),(14,.ptr 1 0),(15,.ptr 2 0),(16,.sl MS.length (yH MS)),(17,.sl FS.length (yH FS)),(18,int i)]) (fun _=>[.box (zP p),.box (zK dx.id),.box (zK dy.id)])
  (fun i=>i<=2) (fun i=>2-i) 0 (by omega)
  (mu [0,1,2] 0 (by rfl) (by simp[hP,zK,hMS,hFS,yH])) ?_
 intro i hi;by_cases h:i<2
 .have hw:=jZ i (by omega);have hi2:(i:Int)<2:=by omega
  have hiM:i<MS.length:=by omega
  have hMd:=cO hiM;have hMne:¬MS=[]:=fun e=>by rw[e]at hiM;simp at hiM
  generalize MS[i]=m at hMd;have hvs:=zCf p (yI dx.id) m;simp[hi2];refine qK (S:=Nat) (fun k=>[(13,.ptr 0 0),(14,.ptr 1 0),(15,.ptr 2 0),(16,.sl MS.length (yH MS)),(17,.sl FS.length (yH FS)),(18,int i),(19,int k)]) (fun _=>[.box (zP p),.box (zK dx.id),.box (zK dy.id)])
   (fun k=>k<=2) (fun k=>2-k) 0 (by omega)
   (mu [0,1,2] 0 (by rfl) (by simp[hP,zK])) ?_
  intro k hk;by_cases hkl:k<2
  .have hwk:=jZ k (by omega);have hk2:(k:Int)<2:=by omega
   have hkF:k<FS.length:=by omega
   have hFd:=cO hkF;have hFne:¬FS=[]:=fun e=>by rw[e]at hkF;simp at hkF
   have hfr:=hFr _ (jA0 hkF);generalize FS[k]=f at hFd hfr;have r1:=zJc hf hsm dx.id dy.id h64 hql m f (by omega) (by omega) hvs;have r2:=zPT hf hsm dx.id dy.id h64 hql m f (by omega) (by omega) hvs;have hcm:=dO (cQ p dx.id dy.id m f).1 (cQ p dx.id dy.id m f).1;have r3:=zOo (cQ p dx.id dy.id m f).2.1 (cQ p dx.id dy.id m f).2.1 (by have:=zL5 p dx.id dy.id m f;omega);generalize cQ p dx.id dy.id m f=R at *
   rw[mD]at hcm;simp[hk2,hP,zK,hiM,hkF,hMd,hFd,hMne,hFne]
   intros
   refine yX r1 (by simp[hP,zK]) (by simp[iM,zF]) ?_;simp[hk2,hP,zK,hiM,hkF,hMd,hFd,hMne,hFne,iM,zF]
   intros
   refine yX r2 (by simp[hP,zK]) (by simp[iM,zF]) ?_;simp[iM,zF];refine mq hcm (by simp[zF]) ?_;simp;refine mq r3 (by simp) ?_;simp;exact zO (k+1) (by omega) (by omega) (mu [0,1,2] 0 (by rfl) (by simp[hP,zK,hwk]))
  .have hke:k=2:=by omega
   subst hke;simp[hP,zK];exact zO (i+1) (by omega) (by omega) (mu [0,1,2] 0 (by rfl) (by simp[hP,zK,hw]))
 .have hie:i=2:=by omega
  subst hie;simp[hP,zK];refine mq hlv (by simp) ?_;simp;exact zA 0 (by simp)
end Go.Proofs.YtdnelmeboihpkaaGreatDoor
