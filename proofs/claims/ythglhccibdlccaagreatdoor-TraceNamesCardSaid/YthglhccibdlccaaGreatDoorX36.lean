/-
  Tweaked nodes, other names.
  The maker's plans: the types of records and variants; all plans.
  What the reference says of changes, as data: the same set.
-/
import Derived.Test.YthglhccibdlccaaGreatDoorX34
import Derived.Test.YthglhccibdlccaaGreatDoorX33
import Derived.Test.YthglhccibdlccaaGreatDoorX35
import Derived.Test.YthglhccibdlccaaGreatDoorX19
set_option linter.unusedVariables false
set_option linter.unusedSimpArgs false
namespace Go.Proofs.YthglhccibdlccaaGreatDoor
open Go.Abs
def zXh:K:=(G [M 63 1,kBi 64 63 1 .sub,M 1 64] (G [kMn 8] (Z (G [kMi 9 0] (K.block 1 (K.loop (Z (G [M 65 9,D 66 3 13,L 67 66 1,kN 68 67,kB 69 65 68 .lss] (Y 69 ks (K.exit 1))) (Z (K.block 2 (G [D 72 3 13,L 73 72 1,M 74 9,kX 75 73 74 15,J 76 75 15,kZ 10 kz1,S 10 76 15] (Z (G [M 77 1,kBi 78 77 0 .geq] (Y 78 (K.ops [J 80 10 15,M 81 1,M 82 2,kC 83 53 [(kt 80),(kt 81),(kt 82)],M 79 83,kE 84 79 0,kE 85 79 1,S 10 84 15,M 1 85]) ks)) (K.ops [M 86 8,J 87 10 15,kd 88 37 15 1 kz1 [(0,15,(kt 87))],kP 89 37 15 168 86 88,M 8 89])))) (K.ops [M 70 9,kBi 71 70 1 .add,M 9 71])))))) (G [M 90 8,D 91 3 13,S 91 90 1] (G [J 92 3 15,M 93 1,S 6 92 15,M 7 93] kr)))))
def KTw:K:=G [kO 3 0,kZ 6 kz1,kMi 7 0] (Z (G [M 11 1,kQi 12 11 0 false] (Y 12 (G [D 13 3 3,L 14 13 1] (K.block 0 (G [kQi 16 14 0 false,M 15 16] (Y 15 (K.ops [M 17 2,kBi 18 17 9 .rem,kBi 19 18 4 .sub,D 20 3 4,S 20 19 1]) (G [kQi 22 14 1 false,M 21 22] (Y 21 (K.ops [D 23 3 4,L 24 23 1,⟨none,.bin (some 25) .sub (kc 1) (kt 24)⟩,D 26 3 4,S 26 25 1]) (G [kQi 28 14 4 false,M 27 28] (Y 27 (G [D 29 3 4,L 30 29 1,kBi 31 30 4 .leq] (Y 31 (K.ops [M 32 2,kBi 33 32 5 .rem,D 34 3 4,S 34 33 1]) (G [D 35 3 4,L 36 35 1,kQi 37 36 7 false,M 38 37,T 38 false (D 39 3 4),T 38 false (L 40 39 1),T 38 false (kQi 41 40 8 false),kPt 42 38 41] (Y 42 (K.ops [D 43 3 4,L 44 43 1,⟨none,.bin (some 45) .sub (kc 15) (kt 44)⟩,D 46 3 4,S 46 45 1]) ks)))) (G [kQi 48 14 5 false,M 47 48] (Y 47 (K.dops [(0,0,D 49 3 13),(1,0,L 50 49 1),(2,0,kXi 51 50 15 0),(3,0,J 52 51 15),(4,0,D 53 3 13),(5,0,L 54 53 1),(6,0,kXi 55 54 15 2),(7,0,J 56 55 15),(8,0,D 57 3 13),(9,0,L 58 57 1),(10,0,kXi 59 58 15 1),(11,0,J 60 59 15),(12,0,kd 61 37 15 3 kz4 [(0,15,(kt 52)),(15,15,(kt 56)),(30,15,(kt 60))]),(13,0,D 62 3 13),(14,0,S 62 61 1)]) ks)))))))))) ks)) (K.wk zXh))
theorem cTw:zK Tryz.prog Tryz.f53.ntmps (Tryz.f53.body.getD .skip)=some KTw.erase:=by kernel_rfl
@[simp] theorem qPI:zA Tryz.prog 53=true:=by kernel_rfl
def qGb:K:=G [kO 2 0,kZ 4 kz1] (G [kMn 5] (Z (G [kMi 6 0] (K.block 0 (K.loop (Z (G [M 9 6,D 10 2 14,L 11 10 1,kN 12 11,kB 13 9 12 .lss] (Y 13 ks (K.exit 0))) (Z (K.block 1 (K.ops [M 16 5,M 17 1,⟨none,.bslice (some 18) 9 1 1 [(.string ⟨#[]⟩)] [(0,1,(kt 17))]⟩,kP 19 9 1 16 16 18,M 5 19])) (K.ops [M 14 6,kBi 15 14 1 .add,M 6 15])))))) (Z (K.wk (K.ops [M 20 5,D 21 2 14,S 21 20 1])) (G [kMn 7] (Z (G [kMi 8 0] (K.block 2 (K.loop (Z (G [M 22 8,D 23 2 13,L 24 23 1,kN 25 24,kB 26 22 25 .lss] (Y 26 ks (K.exit 2))) (Z (K.block 3 (K.ops [M 29 7,D 30 2 13,L 31 30 1,M 32 8,kX 33 31 32 15,J 34 33 15,M 35 1,kC 36 54 [(kt 34),(kt 35)],kd 37 37 15 1 kz1 [(0,15,(kt 36))],kP 38 37 15 168 29 37,M 7 38])) (K.ops [M 27 8,kBi 28 27 1 .add,M 8 28])))))) (Z (K.wk (K.ops [M 39 7,D 40 2 13,S 40 39 1])) (G [J 41 2 15,S 4 41 15] kr)))))))
theorem qM5:zK Tryz.prog Tryz.f54.ntmps (Tryz.f54.body.getD .skip)=some qGb.erase:=by kernel_rfl
@[simp] theorem qN1:zA Tryz.prog 54=true:=by kernel_rfl
def zUg:K:=G [kO 1 0,kMi 2 0] (G [kMi 3 1] (Z (G [kMi 4 0] (K.block 0 (K.loop (Z (G [M 5 4,D 6 1 13,L 7 6 1,kN 8 7,kB 9 5 8 .lss] (Y 9 ks (K.exit 0))) (Z (K.block 1 (K.ops [M 12 3,D 13 1 13,L 14 13 1,M 15 4,kX 16 14 15 15,J 17 16 15,kC 18 52 [(kt 17)],kB 19 12 18 .add,M 3 19])) (K.ops [M 10 4,kBi 11 10 1 .add,M 4 11])))))) (G [M 20 3,M 2 20] kr)))
theorem qBw:zK Tryz.prog Tryz.f52.ntmps (Tryz.f52.body.getD .skip)=some zUg.erase:=by kernel_rfl
@[simp] theorem qHD:zA Tryz.prog 52=true:=by kernel_rfl
def twN (e:Exp)(n:Int):Exp:=.mk e.id e.k n e.ref e.typ e.kids e.names
def twK (e:Exp)(ks:List Exp):Exp:=.mk e.id e.k e.n e.ref e.typ ks e.names
def zAr (e:Exp)(x:Int):Exp :=
 if e.k=0 then twN e (IntKind.i64.wrap (x.tmod 9-4))
 else if e.k=1 then twN e (IntKind.i64.wrap (1-e.n))
 else if e.k=4 then (if e.n≤4 then twN e (x.tmod 5) else if e.n=7∨e.n=8 then twN e (IntKind.i64.wrap (15-e.n)) else e)
 else if e.k=5 then (match e.kids with
  | [a,b,c]=>twK e [a,c,b]
  | _=>e)
 else e
mutual
def zA2:Exp→Int→Int→Exp×Int
 | .mk i k n r t ks ns,a,x=>if a=0 then (zAr (.mk i k n r t ks ns) x,-1) else (.mk i k n r t (jT ks (a-1) x).1 ns,(jT ks (a-1) x).2)
def jT:List Exp→Int→Int→List Exp×Int
 | [],a,_=>([],a)
 | e::l,a,x=>if 0≤a then ((zA2 e a x).1::(jT l (zA2 e a x).2 x).1,(jT l (zA2 e a x).2 x).2) else (e::(jT l a x).1,(jT l a x).2)
end
theorem zQV (e:Exp)(a x:Int):zA2 e a x=if a=0 then (zAr e x,-1) else (twK e (jT e.kids (a-1) x).1,(jT e.kids (a-1) x).2):=by cases e; simp only[zA2,twK,Exp.kids_mk,Exp.id_mk,Exp.k_mk,Exp.n_mk,Exp.ref_mk,Exp.typ_mk,Exp.names_mk]
theorem zKS {a x:Int}(h:a<0):∀l:List Exp,jT l a x=(l,a)
 | []=>rfl
 | e::l=>by simp only[jT,if_neg (show ¬0≤a by omega),zKS h l]
theorem zF5 (e:Exp)(x:Int):∀(l:List Exp) (a:Int),jT (l++[e]) a x=if 0≤(jT l a x).2 then ((jT l a x).1++[(zA2 e (jT l a x).2 x).1],(zA2 e (jT l a x).2 x).2) else ((jT l a x).1++[e],(jT l a x).2)
 | [],a=>by by_cases h:0≤a<;>simp[jT,h]
 | y::l,a=>by
  simp only[List.cons_append,jT];by_cases h:0≤a
  ·simp only[if_pos h];rw[zF5 e x l];split<;>simp
  ·simp only[if_neg h];rw[zF5 e x l];split<;>simp
mutual
theorem zTH:∀(e:Exp) (a x:Int),0≤a→-1≤(zA2 e a x).2∧(zA2 e a x).2≤a
 | .mk i k n r t ks ns,a,x,h=>by
  simp only[zA2];split
  ·simp only; omega
  ·have:=zFU ks (a-1) x (by omega);simp only;omega
theorem zFU:∀(l:List Exp) (a x:Int),-1≤a→-1≤(jT l a x).2∧(jT l a x).2≤a
 | [],a,x,h=>by simp only[jT]; omega
 | e::l,a,x,h=>by
  simp only[jT];split
  ·have h1:=zTH e a x (by omega);have:=zFU l (zA2 e a x).2 x h1.1;simp only;omega
  ·have:=zFU l a x h;simp only;omega
end
theorem zES (x:Int):∀(l:List Exp) (a:Int),(jT l a x).1.length=l.length
 | [],_=>rfl
 | e::l,a=>by simp only[jT];split<;>simp[zES x l]
theorem zI1 {l:List Exp}{i:Nat}(h:i<l.length)(a x:Int):jT (l.take (i+1)) a x=if 0≤(jT (l.take i) a x).2 then ((jT (l.take i) a x).1++[(zA2 l[i] (jT (l.take i) a x).2 x).1],(zA2 l[i] (jT (l.take i) a x).2 x).2) else ((jT (l.take i) a x).1++[l[i]],(jT (l.take i) a x).2):=by rw[List.take_succ_eq_append_getElem h,zF5]
def zMA (e:Exp):Prop:=∀z∈zAJ e,z.k=5→z.kids.length=3
theorem zL5 {z k:Exp}(hz:z∈zAJ k):∀{l:List Exp},k∈l→z∈zAK l
 | y::l,h=>by
  simp only[zAK,List.mem_append];rcases List.mem_cons.1 h with rfl | h
  ·exact .inl hz
  ·exact .inr (zL5 hz h)
theorem zMA.kid {e k:Exp}(h:zMA e)(hk:k∈e.kids):zMA k:=fun z hz=>h z (by rw[zJ3]; exact List.mem_cons_of_mem _ (zL5 hz hk))
theorem zMA.here {e:Exp}(h:zMA e)(hk:e.k=5):∃a b c,e.kids=[a,b,c]:=by
 have:=h e (by rw[zJ3]; exact List.mem_cons_self ..) hk
 match hh:e.kids,this with
 | [a,b,c],_=>exact⟨a,b,c,rfl⟩
abbrev twF:FuncId:=53
def twR (q:Exp×Int):A:=.tup [.agg (zF q.1),int q.2]
set_option maxHeartbeats 1000000 in
theorem zSj (e1:Exp)(a x:Int)(hkl:e1.kids.length≤1000000)(ha:0≤a)(ha2:a≤1000000000)(ih:0≤a-1→∀k∈e1.kids,∀b,0≤b→b≤1000000000→Ret Tryz.prog twF [.agg (zF k),int b,int x] [] (twR (zA2 k b x)) []) :
 wpK Tryz.prog 0 zXh (fin [RS.cell 6 15 true,RS.slot 7] (zFX 0 (twR (twK e1 (jT e1.kids (a-1) x).1,(jT e1.kids (a-1) x).2)) [])) (qP [(1,int a),(2,int x),(3,.ptr 0 0),(6,.ptr 1 0)]) [.box (zF e1),.box (zF Exp.zero)]:=by
 have wa:IntKind.i64.wrap (a-1)=a-1:=IntWalk.i64_in _ (by omega);unfold zXh;simp[wa];refine qR (S:=Nat) (fun i=>[(1,int (jT (e1.kids.take i) (a-1) x).2),(2,int x),(3,.ptr 0 0),(6,.ptr 1 0),(8,.row 2 i),(9,int i)])
  (fun i=>[.box (zF e1),.box (zF Exp.zero),.row false 37 15 i (qL (jT (e1.kids.take i) (a-1) x).1)]) (fun i=>i≤e1.kids.length) (fun i=>e1.kids.length-i) 0 (by simp)
  ((jV (t:=8) (by simp) 37 15).trans (zP [0,1,2] 0 (by decide) (by simp) (by simp[zF,jT]) (by simp[jT]))) ?_
 intro i hi;have hat:=zFU (e1.kids.take i) (a-1) x (by omega);by_cases h:i<e1.kids.length
 ·have hst:=zI1 h (a-1) x;have hlen:=zES x (e1.kids.take i) (a-1);rw[List.length_take,Nat.min_eq_left hi]at hlen;have hdr:=yJ h;have hb15:i*15+15≤e1.kids.length*15:=by omega
  have ihk:=fun h0=>ih h0 e1.kids[i] (List.getElem_mem h)
  generalize e1.kids[i]=k at *
  by_cases h0:0≤(jT (e1.kids.take i) (a-1) x).2
  ·have hc:=ihk (by omega) _ h0 (by omega);rw[if_pos h0]at hst;generalize jT (e1.kids.take i) (a-1) x=q at *
   simp[zF,h,hdr,hb15,h0];intro hl;refine zR hc (by simp[zF]) (by simp[twR]) ?_;simp[twR];refine⟨⟨by simp[maxLen]; omega,by omega⟩,?_⟩;exact zS (i+1) h (by omega) (zP [0,1,2] 0 (by decide) (by simp) (by simp[zF,hst,zGg,zJ]) (by simp[qA h hl,hst]))
  ·rw[if_neg h0]at hst;generalize jT (e1.kids.take i) (a-1) x=q at *
   simp[zF,h,hdr,hb15,h0];intro hl;refine⟨⟨by simp[maxLen]; omega,by omega⟩,?_⟩;exact zS (i+1) h (by omega) (zP [0,1,2] 0 (by decide) (by simp) (by simp[zF,hst,zGg,zJ]) (by simp[qA h hl,hst]))
 ·have hie:i=e1.kids.length:=by omega
  subst hie;rw[List.take_length];have hlen:=zES x e1.kids (a-1);simp[zF]
  intros
  exact zC 1 (by simp[twR,twK,zF,hlen])
theorem zWO (e:Exp):twK e e.kids=e:=by cases e; rfl
theorem zPx (e:Exp)(x:Int):(zAr e x).kids.length=e.kids.length:=by
 unfold zAr;split
 ·rfl
 ·split
  ·rfl
  ·split
   ·split
    ·rfl
    ·split<;>rfl
   ·split
    ·split
     ·rename_i h; rw[h]; rfl
     ·rfl
    ·rfl
theorem zOy:∀(ks:List Exp),ks.length≤(qW ks).length
 | []=>Nat.le_refl _
 | e::ks=>by
  have:=zOy ks;have h1:1≤(tmps e).length:=by rw[zAs,List.length_append,List.length_singleton]; omega
  simp only[qW,List.length_append,List.length_cons];omega
theorem zGF {e:Exp}(h:(tmps e).length≤1000000):e.kids.length≤1000000∧∀k∈e.kids,(tmps k).length≤1000000:=by rw[zAs,List.length_append,List.length_singleton]at h;have:=zOy e.kids;exact⟨by omega,fun k hk=>by have:=zF4 hk; omega⟩
set_option maxHeartbeats 2000000 in
theorem zQW (e:Exp)(hif:zMA e)(hle:(tmps e).length≤1000000)(ih:∀k∈e.kids,∀a x,0≤a→a≤1000000000→Ret Tryz.prog twF [.agg (zF k),int a,int x] [] (twR (zA2 k a x)) [])(a x:Int)(ha:0≤a)(ha2:a≤1000000000) :
 Ret Tryz.prog twF [.agg (zF e),int a,int x] [] (twR (zA2 e a x)) []:=by
 obtain⟨hk,_⟩:=zGF hle;rw[zQV];refine zH Tryz.func53 rfl cTw (rs:=[.cell 6 15 true,.slot 7]) (by kernel_rfl) ?_;unfold KTw;have zero:a=0→∀e1:Exp,e1=zAr e x→wpK Tryz.prog 0 zXh (fin [RS.cell 6 15 true,RS.slot 7] (zFX 0 (twR (zAr e x,-1)) [])) (qP [(1,int a),(2,int x),(3,.ptr 0 0),(6,.ptr 1 0)]) [.box (zF e1),.box (zF Exp.zero)]:=fun h0 e1 he=>by have ht:=zSj e1 a x (by rw[he,zPx]; exact hk) ha ha2 (fun h=>by omega);rw[zKS (show a-1<0 by omega),zWO,he,h0]at ht;rw[he,h0];exact ht
 by_cases h0:a=0
 ·rw[if_pos h0];have zero:=zero h0;subst h0;by_cases k0:e.k=0
  ·have hh:twN e (IntKind.i64.wrap (x.tmod 9-4))=zAr e x:=by simp only[zAr,if_pos k0]
   have ht:=zero _ hh;simp[zF,k0];exact⟨_,_,zP [0,1] 0 (by decide) (by simp) (by simp[zF,twN,Exp.zero,Id.zero,Typ.zero,k0]) (by simp),ht⟩
  by_cases k1:e.k=1
  ·have hh:twN e (IntKind.i64.wrap (1-e.n))=zAr e x:=by simp only[zAr,if_neg k0,if_pos k1]
   have ht:=zero _ hh;simp[zF,k1];exact⟨_,_,zP [0,1] 0 (by decide) (by simp) (by simp[zF,twN,Exp.zero,Id.zero,Typ.zero,k1]) (by simp),ht⟩
  by_cases k4:e.k=4
  ·by_cases n4:e.n≤4
   ·have hh:twN e (x.tmod 5)=zAr e x:=by simp only[zAr,if_neg k0,if_neg k1,if_pos k4,if_pos n4]
    have ht:=zero _ hh;simp[zF,k4,n4];exact⟨_,_,zP [0,1] 0 (by decide) (by simp) (by simp[zF,twN,Exp.zero,Id.zero,Typ.zero,k4,n4]) (by simp),ht⟩
   by_cases n7:e.n=7
   ·have hh:twN e (IntKind.i64.wrap (15-e.n))=zAr e x:=by simp only[zAr,if_neg k0,if_neg k1,if_pos k4,if_neg n4,if_pos (show e.n=7∨e.n=8 from .inl n7)]
    have ht:=zero _ hh;simp[zF,k4,n7];exact⟨_,_,zP [0,1] 0 (by decide) (by simp) (by simp[zF,twN,Exp.zero,Id.zero,Typ.zero,k4,n7]) (by simp),ht⟩
   by_cases n8:e.n=8
   ·have hh:twN e (IntKind.i64.wrap (15-e.n))=zAr e x:=by simp only[zAr,if_neg k0,if_neg k1,if_pos k4,if_neg n4,if_pos (show e.n=7∨e.n=8 from .inr n8)]
    have ht:=zero _ hh;simp[zF,k4,n8];exact⟨_,_,zP [0,1] 0 (by decide) (by simp) (by simp[zF,twN,Exp.zero,Id.zero,Typ.zero,k4,n8]) (by simp),ht⟩
   ·have hh:e=zAr e x:=by simp only[zAr,if_neg k0,if_neg k1,if_pos k4,if_neg n4,if_neg (show ¬(e.n=7∨e.n=8) from fun h=>h.elim n7 n8)]
    have ht:=zero _ hh;simp[zF,k4,n4,n7,n8];exact⟨_,_,zP [0,1] 0 (by decide) (by simp) (by simp[zF,twN,Exp.zero,Id.zero,Typ.zero,k4,n4,n7,n8]) (by simp),ht⟩
  by_cases k5:e.k=5
  ·obtain⟨y0,y1,y2,hy⟩:=hif.here k5;have hh:twK e [y0,y2,y1]=zAr e x:=by simp only[zAr,if_neg k0,if_neg k1,if_neg k4,if_pos k5,hy]
   have ht:=zero _ hh;simp[zF,k5,hy,zJ];exact⟨_,_,zP [0,1] 0 (by decide) (by simp) (by simp[zF,twK,Exp.zero,Id.zero,Typ.zero,k5,hy,zJ]) (by simp),ht⟩
  ·have hh:e=zAr e x:=by simp only[zAr,if_neg k0,if_neg k1,if_neg k4,if_neg k5]
   have ht:=zero _ hh;simp[zF,k0,k1,k4,k5];exact⟨_,_,zP [0,1] 0 (by decide) (by simp) (by simp[zF,twN,Exp.zero,Id.zero,Typ.zero,k0,k1,k4,k5]) (by simp),ht⟩
 ·rw[if_neg h0];have ht:=zSj e a x hk ha ha2 (fun _ k hk' b hb hb2=>ih k hk' b x hb hb2);simp[zF,h0];exact⟨_,_,zP [0,1] 0 (by decide) (by simp) (by simp[zF,Exp.zero,Id.zero,Typ.zero]) (by simp),ht⟩
mutual
theorem zWP:∀(e:Exp),zMA e→(tmps e).length≤1000000→∀a x,0≤a→a≤1000000000→Ret Tryz.prog twF [.agg (zF e),int a,int x] [] (twR (zA2 e a x)) []
 | .mk i k n r t ks ns,hif,hle=>zQW _ hif hle fun y hy=>zM8 ks y hy (hif.kid hy) ((zGF hle).2 y hy)
theorem zM8:∀(l:List Exp),∀e∈l,zMA e→(tmps e).length≤1000000→∀a x,0≤a→a≤1000000000→Ret Tryz.prog twF [.agg (zF e),int a,int x] [] (twR (zA2 e a x)) []
 | [],e,he=>by simp at he
 | y::l,e,he=>by
  rcases List.mem_cons.1 he with h | h
  ·rw[h]; exact zWP y
  ·exact zM8 l e h
end
mutual
theorem zQ4:∀(e:Exp),(tmps e).length≤1000000000→Ret Tryz.prog 52 [.agg (zF e)] [] (int (tmps e).length) []
 | .mk a b c d t l ns,hle=>by
  have ih:=zIS l;generalize ha:Exp.mk a b c d t l ns=e at hle;have hal:e.kids=l:=by rw[←ha]; rfl
  rw[←hal]at ih;rw[zAs,List.length_append,List.length_singleton]at hle;refine zH Tryz.func52 rfl qBw (rs:=[.slot 2]) (by kernel_rfl) ?_;unfold zUg;simp[zF];refine qR (S:=Nat) (fun i=>[(1,.ptr 0 0),(3,int ((qW (e.kids.take i)).length+1:Nat)),(4,int i)]) (fun _=>[.box (zF e)]) (fun i=>i≤e.kids.length) (fun i=>e.kids.length-i) 0 (by simp)
   (zP [0] 0 (by decide) (by simp) (by simp[zF]) (by simp[qW])) ?_
  intro i hi;by_cases h:i<e.kids.length
  ·have hle2:(tmps e.kids[i]).length≤1000000000:=by have:=zF4 (List.getElem_mem h); omega
   have h3:=zCJ (l:=e.kids) (i+1);rw[yM h,List.length_append]at h3;simp[zF,h,yJ h];intro hl;refine zR (ih e.kids[i] (List.getElem_mem h) hle2) (by simp[zF]) (by simp) ?_;have hw:IntKind.i64.wrap ((((qW (e.kids.take i)).length:Int)+1)+((tmps e.kids[i]).length:Int))=((qW (e.kids.take i)).length:Int)+1+(tmps e.kids[i]).length:=IntWalk.i64_in _ (by omega);simp[hw];exact zS (i+1) h (by omega) (zP [0] 0 (by decide) (by simp) (by simp[zF]) (by simp[qA h hl,yM h]; omega))
  ·have hie:i=e.kids.length:=by omega
   subst hie;simp[zF]
   first | exact fun _=>zC 0 (by simp[zAs]) | exact zC 0 (by simp[zAs])
theorem zIS:∀(l:List Exp),∀x∈l,(tmps x).length≤1000000000→Ret Tryz.prog 52 [.agg (zF x)] [] (int (tmps x).length) []
 | [],x,hx=>by simp at hx
 | z::l,x,hx=>by
  rcases List.mem_cons.1 hx with e | hx
  ·rw[e]; exact zQ4 z
  ·exact zIS l x hx
end
mutual
def zA4 (s:ByteArray):Exp→Exp
 | .mk i k n r t ks ns=>.mk i k n r t (zOD s ks) (ns.map fun _=>s)
def zOD (s:ByteArray):List Exp→List Exp
 | []=>[]
 | e::l=>zA4 s e::zOD s l
end
theorem zKr (s:ByteArray):∀l:List Exp,zOD s l=l.map (zA4 s)
 | []=>rfl
 | e::l=>by simp only[zOD,List.map_cons,zKr s l]
mutual
def Exp.few:Exp→Prop
 | .mk _ _ _ _ _ ks ns=>ns.length≤1000000∧ks.length≤1000000∧zSO ks
def zSO:List Exp→Prop
 | []=>True
 | e::l=>e.few∧zSO l
end
theorem zOb:∀l:List Exp,zSO l↔∀e∈l,e.few
 | []=>by simp[zSO]
 | e::l=>by simp[zSO,zOb l]
theorem zLi (a b:List ByteArray):yF (a++b)=yF a++yF b:=by simp only[yF,List.flatMap_append]
abbrev nmF:FuncId:=54
set_option maxHeartbeats 1000000 in
theorem zWn (s:ByteArray)(e:Exp)(hns:e.names.length≤1000000)(hks:e.kids.length≤1000000)(ih:∀k∈e.kids,Ret Tryz.prog nmF [.agg (zF k),.lit (.string s)] [] (.agg (zF (zA4 s k))) []) :
 Ret Tryz.prog nmF [.agg (zF e),.lit (.string s)] [] (.agg (zF (zA4 s e))) []:=by
 have hdef:zA4 s e=.mk e.id e.k e.n e.ref e.typ (e.kids.map (zA4 s)) (e.names.map fun _=>s):=by cases e; simp only[zA4,zKr,Exp.id_mk,Exp.k_mk,Exp.n_mk,Exp.ref_mk,Exp.typ_mk,Exp.kids_mk,Exp.names_mk]
 rw[hdef];refine zH Tryz.func54 rfl qM5 (rs:=[.cell 4 15 true]) (by kernel_rfl) ?_;unfold qGb;simp[zF];refine qR (S:=Nat) (fun i=>[(1,.lit (.string s)),(2,.ptr 0 0),(4,.ptr 1 0),(5,.row 2 i),(6,int i)])
  (fun i=>[.box (zF e),.box (zF Exp.zero),.row false 9 1 i (yF ((e.names.map fun _=>s).take i))]) (fun i=>i≤e.names.length) (fun i=>e.names.length-i) 0 (by simp)
  ((jV (t:=5) (by simp) 9 1).trans (zP [0,1,2] 0 (by decide) (by simp) (by simp[zF,Exp.zero,Id.zero,Typ.zero]) (by simp))) ?_
 intro i hi;by_cases h:i<e.names.length
 ·have hst:yF ((e.names.map fun _=>s).take (i+1))=yF ((e.names.map fun _=>s).take i)++[.lit (.string s)]:=by rw[List.take_succ_eq_append_getElem (by rw[List.length_map]; exact h),zLi,List.getElem_map]; rfl
  simp[zF,h];intro hl;refine⟨⟨by simp[maxLen]; omega,by omega⟩,?_⟩;exact zS (i+1) h (by omega) (zP [0,1,2] 0 (by decide) (by simp) (by rw[hst]; simp[zF]) (by simp[qA h hl]))
 ·have hie:i=e.names.length:=by omega
  subst hie;have halln:List.take e.names.length (e.names.map fun _=>s)=e.names.map fun _=>s:=List.take_of_length_le (by simp)
  simp[zF]
  intros
  refine⟨qP [(1,.lit (.string s)),(2,.ptr 0 0),(4,.ptr 1 0),(5,.sl (e.names.map fun _=>s).length (yF (e.names.map fun _=>s)))],[.box (zF e),.box (zF Exp.zero)],
   zP [0,1] 1 (by decide) (by simp) (by simp[zF,Exp.zero,Id.zero,Typ.zero]) (by simp[halln]),?_⟩
  simp[zF];refine qR (S:=Nat) (fun i=>[(1,.lit (.string s)),(2,.ptr 0 0),(4,.ptr 1 0),(7,.row 2 i),(8,int i)])
   (fun i=>[.box (zF (.mk e.id e.k e.n e.ref e.typ e.kids (e.names.map fun _=>s))),.box (zF Exp.zero),.row false 37 15 i (qL ((e.kids.map (zA4 s)).take i))]) (fun i=>i≤e.kids.length) (fun i=>e.kids.length-i) 0 (by simp)
   ((jV (t:=7) (by simp) 37 15).trans (zP [0,1,2] 0 (by decide) (by simp) (by simp[zF,Exp.zero,Id.zero,Typ.zero]) (by simp))) ?_
  intro i hi;by_cases h:i<e.kids.length
  ·have hst:=yY (l:=e.kids.map (zA4 s)) (i:=i) (by rw[List.length_map]; exact h);rw[List.getElem_map]at hst;simp[zF,h,yJ h];intro hl;refine zR (ih e.kids[i] (List.getElem_mem h)) (by simp[zF]) (by simp) ?_;simp;refine⟨⟨by simp[maxLen]; omega,by omega⟩,?_⟩;exact zS (i+1) h (by omega) (zP [0,1,2] 0 (by decide) (by simp) (by rw[hst]; simp[zF]) (by simp[qA h hl]))
  ·have hie:i=e.kids.length:=by omega
   subst hie;have hall:List.take e.kids.length (e.kids.map (zA4 s))=e.kids.map (zA4 s):=List.take_of_length_le (by simp);simp[zF]
   intros
   refine⟨qP [(2,.ptr 0 0),(4,.ptr 1 0),(7,.sl (e.kids.map (zA4 s)).length (qL (e.kids.map (zA4 s))))],[.box (zF (.mk e.id e.k e.n e.ref e.typ e.kids (e.names.map fun _=>s))),.box (zF Exp.zero)],
    zP [0,1] 1 (by decide) (by simp) (by simp[zF,Exp.zero,Id.zero,Typ.zero]) (by simp[hall]),?_⟩
   simp[zF];exact zC 0 (by simp[zF])
mutual
theorem zWm (s:ByteArray):∀(e:Exp),e.few→Ret Tryz.prog nmF [.agg (zF e),.lit (.string s)] [] (.agg (zF (zA4 s e))) []
 | .mk i k n r t ks ns,h=>by simp only[Exp.few,zOb]at h;exact zWn s _ h.1 h.2.1 fun y hy=>zMk s ks y hy (h.2.2 y hy)
theorem zMk (s:ByteArray):∀(l:List Exp),∀e∈l,e.few→Ret Tryz.prog nmF [.agg (zF e),.lit (.string s)] [] (.agg (zF (zA4 s e))) []
 | [],e,he=>by simp at he
 | y::l,e,he=>by
  rcases List.mem_cons.1 he with h | h
  ·rw[h]; exact zWm s y
  ·exact zMk s l e h
end
theorem zDH {s:ByteArray}{l:List ByteArray}:yF (s::l)=.lit (.string s)::yF l:=rfl
theorem zFV (l:List Int)(at_ most:Int)(n:Nat)(one:Typ):(tyL l at_ most n one).length=n:=by simp[tyL]
theorem zKW (l:List Int)(at_ most:Int){n i:Nat}(h:i<n)(one:Typ):(tyL l at_ most n one).take (i+1)=(tyL l at_ most n one).take i++[zCu (atV l (at_+i) most) one one]:=by
 have hi:i<(tyL l at_ most n one).length:=by rw[zFV]; exact h
 rw[List.take_succ_eq_append_getElem hi]
 congr 2
 simp[tyL]
theorem zF7 (l:List Int)(at_ most:Int){n i:Nat}(h:i≤n)(one:Typ):((tyL l at_ most n one).take i).length=i:=by rw[List.length_take,zFV]; omega
theorem zNv (l:List Int)(at_ most:Int)(n:Nat)(one:Typ):(tyL l at_ most n one).take n=tyL l at_ most n one:=List.take_of_length_le (by rw[zFV]; exact Nat.le_refl _)
set_option maxHeartbeats 1000000 in
theorem qJs (l:List Int)(mods:Int)(hm:1≤mods)(hm2:mods≤2)(hl:∀x∈l,w64 x=x) :
 wpK Tryz.prog 0 zUp (zQc (zX l mods)) (qP [(0,.sl l.length (yB l)),(1,int mods),(5,bl (zDX l)),(6,.ptr 0 0),(7,.ptr 1 0),(8,.sl (zBn l mods).types.length (jI (zBn l mods).types)),(10,.row 2 1)])
  [.box (zB (qH mods)),.box (zB (zBd mods)),.row false 88 11 1 (zAQ (zAZ l mods))]:=by
 have w1:IntKind.i64.wrap (mods-1)=mods-1:=IntWalk.i64_in _ (by omega);have w2:IntKind.i64.wrap (mods+2)=mods+2:=IntWalk.i64_in _ (by omega);have h0:=zB7 l 9 3 (by omega);obtain⟨r0,r0'⟩:=yQ (i:=9) hl (most:=3) (by omega);obtain⟨N,hN⟩:∃N:Nat,(N:Int)=atV l 9 3:=⟨(atV l 9 3).toNat,by omega⟩;unfold zUp;cases hh:zDX l
 ·have hA:=qAR l mods hm hm2 hl [zAZ l mods,zBn l mods] (by simp);have hpl:[zAZ l mods,zBn l mods]++plB l mods=zX l mods:=by simp[zX,hh]
  rw[hpl,hh]at hA;simp[w1];refine⟨by simp[maxLen],?_⟩;refine⟨_,_,zP [0,1,3,2] 0 (by decide) (by simp) ?_ (by simp),hA⟩;simp[zB,zCa,zAQ,zBn,jF,Id.zero,zCX,hh,zDH]
 ·have hA:=qAR l mods hm hm2 hl [zAZ l mods,zBn l mods,zC9 l mods,zJh mods] (by simp);have hpl:[zAZ l mods,zBn l mods,zC9 l mods,zJh mods]++plB l mods=zX l mods:=by simp[zX,hh]
  rw[hpl,hh]at hA;simp[w1];refine⟨by simp[maxLen],?_⟩;refine qR (S:=Nat) (fun i=>[(0,.sl l.length (yB l)),(1,int mods),(5,bl true),(6,.ptr 0 0),(7,.ptr 1 0),(8,.row 4 (1+i)),(10,.row 2 2),(12,int (mods-1)),(13,.ptr 3 0),(14,int i)])
   (fun i=>[.box (zB (qH mods)),.box (zB (zBd mods)),.row false 88 11 2 (zAQ (zAZ l mods)++zAQ (zBn l mods)),.box (zB (qH mods)),.row false 33 5 (1+i) (zB jF++jI ((tyL l 10 4 N (qH mods)).take i))]) (fun i=>i≤N) (fun i=>N-i) 0 (by simp)
   (zP [0,1,2,3,4] 0 (by decide) (by simp) (by simp[zB,zAQ,zBn,jF,Id.zero,zDH]) (by simp)) ?_
  intro i hi;by_cases h:i<N
  ·have h1:=zB7 l (10+i) 4 (by omega);have h2:=zCi l (10+i) 4 (by omega) hl (by omega) (qH mods) (qH mods);have hlt:(i:Int)<atV l 9 3:=by omega
   have v1:IntKind.i64.wrap (10+(i:Int))=10+i:=IntWalk.i64_in _ (by omega);have v2:IntKind.i64.wrap ((i:Int)+1)=i+1:=IntWalk.i64_in _ (by omega);have hst:=zKW l 10 4 h (qH mods);have hsl:=zF7 l 10 4 hi (qH mods);simp;refine zR h0 (by simp) (by simp) ?_;simp[hlt,v1];refine qM h1 (by simp) (by simp) ?_;simp[zB];refine qM h2 (by simp[zB]) (by simp) ?_;simp[zB];refine⟨⟨by simp[maxLen]; omega,by omega⟩,?_⟩;exact zS (i+1) h (by omega) (zP [0,1,2,3,4] 0 (by decide) (by simp) (by rw[hst]; simp[zB,zDU,qE,hsl]; omega) (by simp[v2]; omega))
  ·have hie:i=N:=by omega
   subst hie;have h3:=zEV (mods+2);have h4:=zMq (idR (mods+2));have hall:=zNv l 10 4 i (qH mods);have hty:(zC9 l mods).types=jF::tyL l 10 4 i (qH mods):=by rw[hN]; rfl
   have hlen:=zFV l 10 4 i (qH mods);simp;refine zR h0 (by simp) (by simp) ?_;simp[hN];refine⟨qP [(0,.sl l.length (yB l)),(1,int mods),(5,bl true),(6,.ptr 0 0),(7,.ptr 1 0),(8,.sl (zC9 l mods).types.length (jI (zC9 l mods).types)),(10,.row 2 2),(12,int (mods-1)),(13,.ptr 3 0)],[.box (zB (qH mods)),.box (zB (zBd mods)),.row false 88 11 2 (zAQ (zAZ l mods)++zAQ (zBn l mods)),.box (zB (qH mods))],
    zP [0,1,2,3] 1 (by decide) (by simp) (by simp) (by rw[hty]; simp[←hN,hall,hlen,qE]; omega),?_⟩
   simp[w2];refine zR h3 (by simp) (by simp) ?_;simp;refine zR h4 (by simp[jK]) (by simp) ?_;simp[zB];refine⟨by simp[maxLen],?_⟩;refine qM zKi (by simp[zB,jF,Id.zero]) (by simp) ?_;simp[zB];refine⟨by simp[maxLen],?_⟩;refine⟨_,_,zP [0,1,3,2] 0 (by decide) (by simp) ?_ (by simp),hA⟩;simp[zB,zCa,zAQ,zJh,zC9,qE,jF,Id.zero,zCX,hh,zDH]
set_option maxHeartbeats 1000000 in
theorem qJr (l:List Int)(mods:Int)(hm:1≤mods)(hm2:mods≤2)(hl:∀x∈l,w64 x=x) :
 wpK Tryz.prog 0 zUo (zQc (zX l mods)) (qP [(0,.sl l.length (yB l)),(1,int mods),(5,bl (zDX l)),(6,.ptr 0 0),(7,.ptr 1 0),(8,.sl (zAZ l mods).types.length (jI (zAZ l mods).types))])
  [.box (zB (qH mods)),.box (zB (zBd mods))]:=by
 have h0:=zB7 l 6 2 (by omega);obtain⟨r0,r0'⟩:=yQ (i:=6) hl (most:=2) (by omega);obtain⟨N,hN⟩:∃N:Nat,(N:Int)=1+atV l 6 2:=⟨(1+atV l 6 2).toNat,by omega⟩;have wN:IntKind.i64.wrap (1+atV l 6 2)=N:=by rw[hN]; exact IntWalk.i64_in _ (by omega)
 have hQ:=qJs l mods hm hm2 hl;unfold zUo;simp;refine qR (S:=Nat) (fun i=>[(0,.sl l.length (yB l)),(1,int mods),(5,bl (zDX l)),(6,.ptr 0 0),(7,.ptr 1 0),(8,.row 3 (1+i)),(10,.row 2 1),(11,int i)])
  (fun i=>[.box (zB (qH mods)),.box (zB (zBd mods)),.row false 88 11 1 (zAQ (zAZ l mods)),.row false 33 5 (1+i) (zB jF++jI ((tyL l 7 4 N (qH mods)).take i))]) (fun i=>i≤N) (fun i=>N-i) 0 (by simp)
  (zP [0,1,2,3] 0 (by decide) (by simp) (by simp[zB,zAQ,zAZ,jF,Id.zero,zDH]) (by simp)) ?_
 intro i hi;by_cases h:i<N
 ·have h1:=zB7 l (7+i) 4 (by omega);have h2:=zCi l (7+i) 4 (by omega) hl (by omega) (qH mods) (qH mods);have v1:IntKind.i64.wrap (7+(i:Int))=7+i:=IntWalk.i64_in _ (by omega);have v2:IntKind.i64.wrap ((i:Int)+1)=i+1:=IntWalk.i64_in _ (by omega);have hst:=zKW l 7 4 h (qH mods);have hsl:=zF7 l 7 4 hi (qH mods);simp;refine zR h0 (by simp) (by simp) ?_;simp[h,v1,wN];refine qM h1 (by simp) (by simp) ?_;simp[zB];refine qM h2 (by simp[zB]) (by simp) ?_;simp[zB];refine⟨⟨by simp[maxLen]; omega,by omega⟩,?_⟩;exact zS (i+1) h (by omega) (zP [0,1,2,3] 0 (by decide) (by simp) (by rw[hst]; simp[zB,zDU,qE,hsl]; omega) (by simp[v2]; omega))
 ·have hie:i=N:=by omega
  subst hie;have hall:=zNv l 7 4 i (qH mods);have hty:(zBn l mods).types=jF::tyL l 7 4 i (qH mods):=by rw[hN]; rfl
  have hlen:=zFV l 7 4 i (qH mods);simp;refine zR h0 (by simp) (by simp) ?_;simp[wN];exact⟨_,_,zP [0,1,2] 1 (by decide) (by simp) (by simp) (by rw[hty]; simp[hall,hlen,qE]; omega),hQ⟩
set_option maxHeartbeats 1000000 in
theorem zWy (l:List Int)(mods:Int)(hm:1≤mods)(hm2:mods≤2)(hl:∀x∈l,w64 x=x) :
 Ret Tryz.prog 33 [.sl l.length (yB l),int mods] [] (.sl (zX l mods).length (yN (zX l mods))) []:=by
 have w1:IntKind.i64.wrap (mods+1)=mods+1:=IntWalk.i64_in _ (by omega);have k0:=zB7 l 1 4 (by omega);have k1:=zEV mods;have k2:=zMq (idR mods);have k3:=zEV (mods+1);have k4:=zMq (idR (mods+1));have h0:=zB7 l 2 3 (by omega);obtain⟨r0,r0'⟩:=yQ (i:=2) hl (most:=3) (by omega);obtain⟨N,hN⟩:∃N:Nat,(N:Int)=1+atV l 2 3:=⟨(1+atV l 2 3).toNat,by omega⟩;have wN:IntKind.i64.wrap (1+atV l 2 3)=N:=by rw[hN]; exact IntWalk.i64_in _ (by omega)
 have hP:=qJr l mods hm hm2 hl;refine zI Tryz.func33 rfl qM9 (rs:=[.slot 4]) (by kernel_rfl) ?_;unfold qGf;simp;refine zR k0 (by simp) (by simp) ?_;simp;refine zR k1 (by simp) (by simp) ?_;simp;refine zR k2 (by simp[jK]) (by simp) ?_;simp[zB,w1];refine zR k3 (by simp) (by simp) ?_;simp;refine zR k4 (by simp[jK]) (by simp) ?_;simp[zB];refine qR (S:=Nat) (fun i=>[(0,.sl l.length (yB l)),(1,int mods),(5,bl (zDX l)),(6,.ptr 0 0),(7,.ptr 1 0),(8,.row 2 i),(9,int i)])
  (fun i=>[.box (zB (qH mods)),.box (zB (zBd mods)),.row false 33 5 i (jI ((tyL l 3 3 N (qH mods)).take i))]) (fun i=>i≤N) (fun i=>N-i) 0 (by simp)
  ((jV (t:=8) (by simp) 33 5).trans (zP [0,1,2] 0 (by decide) (by simp) (by simp[zB,qH,zBd]) (by simp[zDX]))) ?_
 intro i hi;by_cases h:i<N
 ·have h1:=zB7 l (3+i) 3 (by omega);have h2:=zCi l (3+i) 3 (by omega) hl (by omega) (qH mods) (qH mods);have v1:IntKind.i64.wrap (3+(i:Int))=3+i:=IntWalk.i64_in _ (by omega);have v2:IntKind.i64.wrap ((i:Int)+1)=i+1:=IntWalk.i64_in _ (by omega);have hst:=zKW l 3 3 h (qH mods);have hsl:=zF7 l 3 3 hi (qH mods);simp;refine zR h0 (by simp) (by simp) ?_;simp[h,v1,wN];refine qM h1 (by simp) (by simp) ?_;simp[zB];refine qM h2 (by simp[zB]) (by simp) ?_;simp[zB];refine⟨⟨by simp[maxLen]; omega,by omega⟩,?_⟩;exact zS (i+1) h (by omega) (zP [0,1,2] 0 (by decide) (by simp) (by rw[hst]; simp[zB,zDU,qE,hsl]) (by simp[v2]))
 ·have hie:i=N:=by omega
  subst hie;have hall:=zNv l 3 3 i (qH mods);have hty:(zAZ l mods).types=tyL l 3 3 i (qH mods):=by rw[hN]; rfl
  have hlen:=zFV l 3 3 i (qH mods);simp;refine zR h0 (by simp) (by simp) ?_;simp[wN];exact⟨_,_,zP [0,1] 1 (by decide) (by simp) (by simp) (by rw[hty]; simp[hall,hlen]),hP⟩
def qCP {α : Type}(idf : α→Id)(same : α→α→Bool)(P Q:List α)(d : α):Option Id:=match zAg idf P (idf d)with
 | none=>none
 | some a=>match zAg idf Q (idf a)with
  | none=>some (idf a)
  | some b=>if same a b then none else some (idf a)
def zLw {α : Type}(idf : α→Id)(same : α→α→Bool)(P Q:List α):List Id:=P.filterMap (qCP idf same P Q)
theorem zJo {α : Type}{idf : α→Id}{l:List α}{x:Id}{a : α}(h:zAg idf l x=some a):idf a=x:=by
 have:=List.find?_some h
 simpa using this
theorem zKc {α : Type}{idf : α→Id}{l:List α}{x:Id}{a : α}(h:zAg idf l x=some a):a∈l:=List.mem_of_find?_eq_some h
theorem zTi {α : Type}{idf : α→Id}{l:List α}{a : α}(h:a∈l):∃b,zAg idf l (idf a)=some b:=by
 cases hh:zAg idf l (idf a)with
 | some b=>exact⟨b,rfl⟩
 | none =>
  unfold zAg at hh;rw[List.find?_eq_none]at hh;have:=hh a h;simp at this
theorem zOp {α : Type}{idf : α→Id}(l l':List α)(x:Id):zAg idf (l++l') x=(zAg idf l x).or (zAg idf l' x):=by simp only[zAg,List.find?_append]
theorem zOq {α : Type}{idf : α→Id}(l:List α)(a : α)(x:Id):zAg idf (zAG idf l a) x=(zAg idf l x).or (if idf a=x then some a else none):=by
 unfold zAG;by_cases h:(zAg idf l (idf a)).isSome
 ·rw[if_pos h];by_cases e:idf a=x
  ·subst e;obtain⟨b,hb⟩:=Option.isSome_iff_exists.1 h;rw[hb]; rfl
  ·rw[if_neg e]; simp
 ·rw[if_neg h,zOp]
  congr 1
  simp only[zAg,List.find?_cons,List.find?_nil];by_cases e:idf a=x
  ·rw[if_pos e]; simp[e]
  ·rw[if_neg e]; simp[e]
theorem zHZ {α : Type}{idf : α→Id}(x:Id):∀(L acc:List α),zAg idf (L.foldl (zAG idf) acc) x=(zAg idf acc x).or (zAg idf L x)
 | [],acc=>by simp[zAg]
 | a::L,acc=>by
  rw[List.foldl_cons,zHZ x L,zOq];have:zAg idf (a::L) x=(if idf a=x then some a else none).or (zAg idf L x):=by
   simp only[zAg,List.find?_cons];by_cases e:idf a=x
   ·simp[e]
   ·simp[e]
  rw[this,Option.or_assoc]
theorem zTM:(∀(e:Exp) (N:List Exp),zL1 e N=(zAJ e).foldl (zAG Exp.id) N)∧∀(l:List Exp) (N:List Exp),zDc l N=(zAK l).foldl (zAG Exp.id) N:=by
 constructor
 ·exact fun e=>vf e
 ·exact fun l=>vfs l
where
 vf:∀(e:Exp) (N:List Exp),zL1 e N=(zAJ e).foldl (zAG Exp.id) N
  | .mk a b c d t ks ns,N=>by simp only[zL1,zAJ,List.foldl_cons];exact vfs ks _
 vfs:∀(l:List Exp) (N:List Exp),zDc l N=(zAK l).foldl (zAG Exp.id) N
  | [],N=>rfl
  | e::l,N=>by simp only[zDc,zAK,List.foldl_append];rw[vf e N,vfs l]
theorem zIh (ds:List Dfn):zDZ ds=(zA0 ds).foldl (zAG Exp.id) []:=by
 have key:∀(ds:List Dfn) (N:List Exp),ds.foldl zOI N=(zA0 ds).foldl (zAG Exp.id) N:=by
  intro ds;induction ds with
  | nil=>intro N; rfl
  | cons d ds ih =>
   intro N;rw[List.foldl_cons,ih];have e:zA0 (d::ds)=(if zBO d.kind then zAJ d.body else [])++zA0 ds:=by simp[zA0]
   rw[e,List.foldl_append]
   congr 1
   unfold zOI;split
   ·exact zTM.1 _ _
   ·rfl
 exact key ds []
section
variable {α : Type}{idf : α→Id}{same : α→α→Bool}
theorem zLX (L:List α){a : α}(h:a∈L.foldl (zAG idf) []):zAg idf (L.foldl (zAG idf) []) (idf a)=some a:=by
 have key:∀(L acc:List α),(∀b∈acc,zAg idf acc (idf b)=some b)→∀b∈L.foldl (zAG idf) acc,zAg idf (L.foldl (zAG idf) acc) (idf b)=some b:=by
  intro L;induction L with
  | nil=>exact fun acc h=>h
  | cons x L ih =>
   intro acc hacc;rw[List.foldl_cons];refine ih _ fun b hb=>?_
   rw[zOq];unfold zAG at hb;split at hb
   ·rw[hacc b hb]; rfl
   ·rename_i hn;rcases List.mem_append.1 hb with hb | hb
    ·rw[hacc b hb]; rfl
    ·rw[List.mem_singleton.1 hb];have:zAg idf acc (idf x)=none:=by simpa using hn
     rw[this]; simp
 exact key L [] (by simp) a h
theorem zHw {P Q:List α}{x:Id}:x∈zLw idf same P Q↔∃a,zAg idf P x=some a∧∀b,zAg idf Q x=some b→same a b=false:=by
 simp only[zLw,List.mem_filterMap];constructor
 ·rintro⟨d,hd,h⟩;obtain⟨a,ha⟩:=zTi (idf:=idf) hd;have hai:=zJo ha;simp only[qCP,ha,hai]at h;cases hq:zAg idf Q (idf d)with
  | none =>
   rw[hq]at h;simp only[Option.some.injEq]at h;subst h;exact⟨a,ha,fun b hb=>by rw[hq]at hb; cases hb⟩
  | some b =>
   rw[hq]at h;simp only at h;split at h
   ·cases h
   ·rename_i hs;simp only[Option.some.injEq]at h;subst h;exact⟨a,ha,fun b' hb=>by rw[hq]at hb; cases hb; simpa using hs⟩
 ·rintro⟨a,ha,h⟩;have hai:=zJo ha;subst hai;refine⟨a,zKc ha,?_⟩;simp only[qCP,ha];cases hq:zAg idf Q (idf a)with
  | none=>rfl
  | some b =>
   simp only;rw[h b hq];simp
theorem zWg {P Q:List α}{x:Id}:x∈zJI idf same (P.foldl (zAG idf) []) (Q.foldl (zAG idf) [])↔(∃a,zAg idf P x=some a∧∀b,zAg idf Q x=some b→same a b=false)∨(zAg idf P x=none∧∃b,zAg idf Q x=some b):=by
 have hP:∀x,zAg idf (P.foldl (zAG idf) []) x=zAg idf P x:=fun x=>by rw[zHZ]; rfl
 have hQ:∀x,zAg idf (Q.foldl (zAG idf) []) x=zAg idf Q x:=fun x=>by rw[zHZ]; rfl
 simp only[zJI,List.mem_append,List.mem_map,List.mem_filter];constructor
 ·rintro(⟨a,⟨h1,h2⟩,rfl⟩ | ⟨b,⟨h1,h2⟩,rfl⟩)
  ·have ha:=zLX P h1;rw[hP]at ha;refine .inl ⟨a,ha,fun b hb=>?_⟩;simp only[cD1,hQ,hb]at h2
   simpa using h2
  ·have hb:=zLX Q h1;rw[hQ]at hb;simp only[cD2,hP,Option.isNone_iff_eq_none]at h2;exact .inr ⟨h2,b,hb⟩
 ·rintro(⟨a,ha,h⟩ | ⟨h,b,hb⟩)
  ·have hai:=zJo ha;subst hai;have ha':=ha;rw[←hP]at ha';refine .inl ⟨a,⟨zKc ha',?_⟩,rfl⟩;simp only[cD1,hQ];cases hq:zAg idf Q (idf a)with
   | none=>rfl
   | some b=>simp[h b hq]
  ·have hbi:=zJo hb;subst hbi;have hb':=hb;rw[←hQ]at hb';refine .inr ⟨b,⟨zKc hb',?_⟩,rfl⟩;simp only[cD2,hP,h];rfl
theorem zRP (hsym:∀a b,same a b=same b a){P Q:List α}{x:Id}:(x∈zLw idf same P Q∨x∈zLw idf same Q P)↔x∈zJI idf same (P.foldl (zAG idf) []) (Q.foldl (zAG idf) []):=by
 rw[zHw,zHw,zWg];constructor
 ·rintro(h | ⟨b,hb,h⟩)
  ·exact .inl h
  ·cases hp:zAg idf P x with
   | none=>exact .inr ⟨rfl,b,hb⟩
   | some a=>exact .inl ⟨a,rfl,fun b' hb'=>by rw[hb]at hb'; cases hb'; rw[hsym]; exact h a hp⟩
 ·rintro(h | ⟨h,b,hb⟩)
  ·exact .inl h
  ·exact .inr ⟨b,hb,fun a ha=>by rw[h]at ha; cases ha⟩
end
theorem zHG {α : Type}{same : α→α→Bool}(h:∀a b,same a b=same b a):∀a b:List α,zB4 same a b=zB4 same b a
 | [],[]=>rfl
 | [],_::_=>rfl
 | _::_,[]=>rfl
 | a::l,b::l'=>by simp only[zB4,h a b,zHG h l l']
theorem zGD (a b:Typ):yE a b=yE b a:=by rw[Bool.eq_iff_iff,zCh,zCh];exact⟨Eq.symm,Eq.symm⟩
theorem zDv {α : Type} [DecidableEq α](a b : α):decide (a=b)=decide (b=a):=by rw[Bool.eq_iff_iff];simp only[decide_eq_true_eq];exact⟨Eq.symm,Eq.symm⟩
theorem zJa (a b:Dfn):zB0 a b=zB0 b a:=by
 unfold zB0;by_cases h:a.kind=b.kind
 ·rw[zHG (same:=zF1) (fun x y=>by simp only[zF1,zDv x.id,zGD x.typ,zDv x.most]) a.slots,zGD a.res,zDv a.body.id,h]
 ·simp[h,fun e:b.kind=a.kind=>h e.symm,Ne.symm h]
theorem zJc (a b:Exp):zB1 a b=zB1 b a:=by unfold zB1;rw[zHG (same:=zJb) (fun x y=>by simp only[zJb,zDv x.id]) a.kids,zGD a.typ,zDv a.k,zDv a.n,zDv a.ref]
def zRF (p q:List Dfn):List Id:=(zLw Dfn.id zB0 p q++zLw Exp.id zB1 (zA0 p) (zA0 q))++(zLw Dfn.id zB0 q p++zLw Exp.id zB1 (zA0 q) (zA0 p))
theorem zRv (p q:List Dfn):zCB (zRF p q)=zMH p q:=by
 refine(zEO _).unique (zEO _) fun x=>?_
 unfold zMH;rw[zCt,zCt,zRF,zIh,zIh];simp only[List.mem_append];have h1:=zRP (x:=x) (P:=p) (Q:=q) (idf:=Dfn.id) zJa;have h2:=zRP (x:=x) (P:=zA0 p) (Q:=zA0 q) (idf:=Exp.id) zJc;rw[show zDz p=p.foldl (zAG Dfn.id) [] from rfl,show zDz q=q.foldl (zAG Dfn.id) [] from rfl,←h1,←h2];constructor
 ·rintro((h | h) | (h | h))
  ·exact .inl (.inl h)
  ·exact .inr (.inl h)
  ·exact .inl (.inr h)
  ·exact .inr (.inr h)
 ·rintro((h | h) | (h | h))
  ·exact .inl (.inl h)
  ·exact .inr (.inl h)
  ·exact .inl (.inr h)
  ·exact .inr (.inr h)
end Go.Proofs.YthglhccibdlccaaGreatDoor
