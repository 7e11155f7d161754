/-
  The number of nodes, their numbers, their IDs.
  The maker's plans: what definitions are to be made.
  The reference's nodes, in preorder; the first node with an ID; same nodes and definitions.
-/
import Derived.Test.YthglhccibdlccaaGreatDoorX36
import Derived.Test.YthglhccibdlccaaGreatDoorX27
import Derived.Test.YthglhccibdlccaaGreatDoorX29
set_option linter.unusedVariables false
set_option linter.unusedSimpArgs false
namespace Go.Proofs.YthglhccibdlccaaGreatDoor
open Go.Abs
def zYr:K:=G [kO 1 0,kMi 2 0] (G [kMi 3 1] (Z (G [kMi 4 0] (K.block 0 (K.loop (Z (G [M 5 4,D 6 1 13,L 7 6 1,kN 8 7,kB 9 5 8 .lss] (Y 9 ks (K.exit 0))) (Z (K.block 1 (K.ops [M 12 3,D 13 1 13,L 14 13 1,M 15 4,kX 16 14 15 15,J 17 16 15,kC 18 35 [(kt 17)],kB 19 12 18 .add,M 3 19])) (K.ops [M 10 4,kBi 11 10 1 .add,M 4 11])))))) (G [M 20 3,M 2 20] kr)))
theorem qFQ:zL Tryz.prog Tryz.f35.ntmps (Tryz.f35.body.getD .skip)=some zYr.erase:=by kernel_rfl
@[simp] theorem qJa:zA Tryz.prog 35=true:=by kernel_rfl
def zSZ:K:=G [kO 2 0,kMn 4] (Z (G [kMi 5 0] (K.block 0 (K.loop (Z (G [M 6 5,D 7 2 13,L 8 7 1,kN 9 8,kB 10 6 9 .lss] (Y 10 ks (K.exit 0))) (Z (K.block 1 (K.ops [D 13 2 13,L 14 13 1,M 15 5,kX 16 14 15 15,J 17 16 15,M 18 1,kC 19 36 [(kt 17),(kt 18)],M 1 19])) (K.ops [M 11 5,kBi 12 11 1 .add,M 5 12])))))) (G [M 20 1,D 21 2 0,D 22 21 2,L 23 22 1,kd 24 3 1 1 [ki] [(0,1,(kt 23))],kP 25 3 1 8 20 24,M 4 25] kr))
theorem zYF:zL Tryz.prog Tryz.f36.ntmps (Tryz.f36.body.getD .skip)=some zSZ.erase:=by kernel_rfl
@[simp] theorem qJc:zA Tryz.prog 36=true:=by kernel_rfl
def zYz:K:=G [kO 2 0,kZ 4 kz1] (G [J 7 2 15,kZ 5 kz1,S 5 7 15] (G [M 8 1,D 9 2 0,D 10 9 2,L 11 10 1,kX 12 8 11 3,J 13 12 3,D 14 5 0,S 14 13 3] (Z (G [D 15 2 3,L 16 15 1,kQi 17 16 2 false,M 18 17,T 18 true (D 19 2 5),T 18 true (D 20 19 1),T 18 true (L 21 20 1),T 18 true (kQi 22 21 0 false),kPf 23 18 22] (Y 23 (K.ops [M 24 1,D 25 2 5,D 26 25 2,L 27 26 1,kX 28 24 27 3,J 29 28 3,D 30 5 5,S 30 29 3]) ks)) (G [D 31 5 13,⟨none,.st none (kt 31) (.const kl) 1⟩] (Z (G [kMi 6 0] (K.block 0 (K.loop (Z (G [M 32 6,D 33 2 13,L 34 33 1,kN 35 34,kB 36 32 35 .lss] (Y 36 ks (K.exit 0))) (Z (K.block 1 (K.dops [(0,2,D 39 5 13),(1,2001,L 40 39 1),(2,0,D 41 2 13),(3,0,L 42 41 1),(4,0,M 43 6),(5,0,kX 44 42 43 15),(6,0,J 45 44 15),(7,0,M 46 1),(8,1001,kC 47 37 [(kt 45),(kt 46)]),(9,0,kd 48 37 15 1 kz1 [(0,15,(kt 47))]),(10,0,kP 49 37 15 168 40 48),(11,2,D 50 5 13),(12,0,S 50 49 1)])) (K.ops [M 37 6,kBi 38 37 1 .add,M 6 38])))))) (G [J 51 5 15,S 4 51 15] kr))))))
def qGO:Nat→Option (List (Nat×Nat)):=fun r=>match r with | 9=>some [(0,2),(1,2001),(2,0),(3,0),(4,0),(5,0),(6,0),(7,0),(8,1001),(9,0),(10,0),(11,2),(12,0)] | _=>none
theorem qFU:qC Tryz.prog Tryz.f37.ntmps qGO (Tryz.f37.body.getD .skip)=some zYz.erase:=by kernel_rfl
@[simp] theorem qJf:zA Tryz.prog 37=true:=by kernel_rfl
@[simp] theorem qIr {d:Option Nat}{x:Operand}{n:Nat}{g:Bool}{env:Env}:zAG 2001 (.ld d x n g) env=zBF 1 (ev env x):=propext (zIW (by omega) (by omega))
@[simp] theorem qBZ {d:Option Nat}{x:Operand}{l:List Operand}{env:Env}:zAG 1001 (.call d x l) env=True:=rfl
@[simp] theorem qD1 {σ : St}:zDk 2001 σ = σ:=rfl
theorem zAW (e:Exp):tmps e=jA e.kids++[e.id.c]:=by cases e; simp only[tmps,Exp.kids,Exp.id]
theorem yZ {l:List Exp}{i:Nat}(h:i<l.length):jA (l.take (i+1))=jA (l.take i)++tmps l[i]:=by rw[List.take_succ_eq_append_getElem h,zDm]
theorem zHq:∀{l:List Exp} {e:Exp},e∈l→(tmps e).length≤(jA l).length
 | x::l,e,h=>by
  simp only[jA,List.length_append];rcases List.mem_cons.1 h with rfl | h
  ·omega
  ·have:=zHq h; omega
theorem zDL {l:List Exp}(i:Nat):(jA (l.take i)).length≤(jA l).length:=by
 have h:∀a b:List Exp,jA (a++b)=jA a++jA b:=fun a b=>by
  induction a with
  | nil=>simp[jA]
  | cons x a ih=>simp[jA,ih]
 have:=h (l.take i) (l.drop i);rw[List.take_append_drop]at this;rw[this,List.length_append];omega
mutual
theorem zNU:∀(e:Exp),(tmps e).length≤1000000000→Ret Tryz.prog 35 [.agg (zF e)] [] (int (tmps e).length) []
 | .mk a b c d t l ns,hle=>by
  have ih:=zL4 l;generalize ha:Exp.mk a b c d t l ns=e at hle;have hal:e.kids=l:=by rw[←ha]; rfl
  rw[←hal]at ih;rw[zAW,List.length_append,List.length_singleton]at hle;refine zI Tryz.func35 rfl qFQ (rs:=[.slot 2]) (by kernel_rfl) ?_;unfold zYr;simp[zF];refine qY (S:=Nat) (fun i=>[(1,.ptr 0 0),(3,int ((jA (e.kids.take i)).length+1:Nat)),(4,int i)]) (fun _=>[.box (zF e)]) (fun i=>i≤e.kids.length) (fun i=>e.kids.length-i) 0 (by simp)
   (zR [0] 0 (by decide) (by simp) (by simp[zF]) (by simp[jA])) ?_
  intro i hi;by_cases h:i<e.kids.length
  ·have hle2:(tmps e.kids[i]).length≤1000000000:=by have:=zHq (List.getElem_mem h); omega
   have h3:=zDL (l:=e.kids) (i+1);rw[yZ h,List.length_append]at h3;simp[zF,h,yQ h];intro hl;refine zQ (ih e.kids[i] (List.getElem_mem h) hle2) (by simp[zF]) (by simp) ?_;have hw:IntKind.i64.wrap ((((jA (e.kids.take i)).length:Int)+1)+((tmps e.kids[i]).length:Int))=((jA (e.kids.take i)).length:Int)+1+(tmps e.kids[i]).length:=IntWalk.i64_in _ (by omega);simp[hw];exact zT (i+1) h (by omega) (zR [0] 0 (by decide) (by simp) (by simp[zF]) (by simp[qD h hl,yZ h]; omega))
  ·have hie:i=e.kids.length:=by omega
   subst hie;simp[zF]
   first | exact fun _=>zC 0 (by simp[zAW]) | exact zC 0 (by simp[zAW])
theorem zL4:∀(l:List Exp),∀x∈l,(tmps x).length≤1000000000→Ret Tryz.prog 35 [.agg (zF x)] [] (int (tmps x).length) []
 | [],x,hx=>by simp at hx
 | z::l,x,hx=>by
  rcases List.mem_cons.1 hx with e | hx
  ·rw[e]; exact zNU z
  ·exact zL4 l x hx
end
def zCx (l:List Int):AObj:=.row false 3 1 l.length (yA l)
mutual
theorem zL5:∀(e:Exp) (l:List Int),l.length+(tmps e).length≤1000000000→Ret Tryz.prog 36 [.agg (zF e),.row 0 l.length] [zCx l] (.row 0 (l++tmps e).length) [zCx (l++tmps e)]
 | .mk a b c d t ks ns,l,hle=>by
  have ih:=zJS ks;generalize ha:Exp.mk a b c d t ks ns=e at hle;have hal:e.kids=ks:=by rw[←ha]; rfl
  rw[←hal]at ih;rw[zAW,List.length_append,List.length_singleton]at hle;refine zI Tryz.func36 rfl zYF (rs:=[.slot 4]) (by kernel_rfl) ?_;unfold zSZ;simp[zF,zCx];refine qY (S:=Nat) (fun i=>[(1,.row 0 (l++jA (e.kids.take i)).length),(2,.ptr 1 0),(5,int i)]) (fun i=>[zCx (l++jA (e.kids.take i)),.box (zF e)]) (fun i=>i≤e.kids.length) (fun i=>e.kids.length-i) 0 (by simp)
   (zR [0,1] 0 (by decide) (by simp) (by simp[zF,zCx,jA]) (by simp[jA])) ?_
  intro i hi;by_cases h:i<e.kids.length
  ·have h3:=zDL (l:=e.kids) (i+1);rw[yZ h,List.length_append]at h3;have hg:=ih e.kids[i] (List.getElem_mem h) (l++jA (e.kids.take i)) (by rw[List.length_append]; omega);simp[zF,zCx,h,yQ h];intro hl;refine zN hg [0] (by decide) (by simp[zCx,zCB]) (by simp[zF]) ?_;simp[zCx];exact zT (i+1) h (by omega) (zR [0,1] 0 (by decide) (by simp) (by simp[zF,zCx,yZ h,zCB]) (by simp[qD h hl,yZ h]))
  ·have hie:i=e.kids.length:=by omega
   subst hie;simp[zF,zCx];intro _;refine⟨⟨by simp[maxLen]; omega,by omega⟩,?_⟩;exact zG [0] 0 (by decide) (by simp) (by simp[zAW,zCB]; omega) (by simp[zAW]; omega)
theorem zJS:∀(ks:List Exp),∀x∈ks,∀(l:List Int),l.length+(tmps x).length≤1000000000→Ret Tryz.prog 36 [.agg (zF x),.row 0 l.length] [zCx l] (.row 0 (l++tmps x).length) [zCx (l++tmps x)]
 | [],x,hx=>by simp at hx
 | z::l,x,hx=>by
  rcases List.mem_cons.1 hx with e | hx
  ·rw[e]; exact zL5 z
  ·exact zJS l x hx
end
theorem zPB (e:Exp)(hle:(tmps e).length≤1000000000):Ret Tryz.prog 36 [.agg (zF e),.nil] [] (.row 0 (tmps e).length) [zCx (tmps e)]:=by
 rw[zAW,List.length_append,List.length_singleton]at hle;refine zI Tryz.func36 rfl zYF (rs:=[.slot 4]) (by kernel_rfl) ?_;unfold zSZ;simp[zF,zCx];refine qY (S:=Nat) (fun i=>[(1,.row 0 (jA (e.kids.take i)).length),(2,.ptr 1 0),(5,int i)]) (fun i=>[zCx (jA (e.kids.take i)),.box (zF e)]) (fun i=>i≤e.kids.length) (fun i=>e.kids.length-i) 0 (by simp)
  ((yK (t:=1) (by simp) 3 1).trans (zR [1,0] 0 (by decide) (by simp) (by simp[zF,zCx,jA]) (by simp[jA]))) ?_
 intro i hi;by_cases h:i<e.kids.length
 ·have h3:=zDL (l:=e.kids) (i+1);rw[yZ h,List.length_append]at h3;have hg:=zL5 e.kids[i] (jA (e.kids.take i)) (by omega);simp[zF,zCx,h,yQ h];intro hl;refine zN hg [0] (by decide) (by simp[zCx]) (by simp[zF]) ?_;simp[zCx];exact zT (i+1) h (by omega) (zR [0,1] 0 (by decide) (by simp) (by simp[zF,zCx,yZ h,zCB]) (by simp[qD h hl,yZ h]))
 ·have hie:i=e.kids.length:=by omega
  subst hie;simp[zF,zCx];intro _;refine⟨⟨by simp[maxLen]; omega,by omega⟩,?_⟩;exact zG [0] 0 (by decide) (by simp) (by simp[zAW,zCB]) (by simp[zAW])
mutual
def zBz (f:Int→Id):Exp→Exp
 | .mk i k n r t ks ns=>.mk (f i.c) k n (if k=2∧r.b=0 then f r.c else r) t (zEE f ks) ns
def zEE (f:Int→Id):List Exp→List Exp
 | []=>[]
 | e::l=>zBz f e::zEE f l
end
theorem zDT (f:Int→Id):∀l:List Exp,zEE f l=l.map (zBz f)
 | []=>rfl
 | e::l=>by simp only[zEE,List.map_cons,zDT f l]
mutual
def Exp.under (N:Nat):Exp→Prop
 | .mk i k _ r _ ks _=>(0≤i.c∧i.c<N)∧(k=2→r.b=0→0≤r.c∧r.c<N)∧ks.length≤1000000000∧zIj N ks
def zIj (N:Nat):List Exp→Prop
 | []=>True
 | e::l=>e.under N∧zIj N l
end
theorem zGx {N:Nat}:∀l:List Exp,zIj N l↔∀e∈l,e.under N
 | []=>by simp[zIj]
 | e::l=>by simp[zIj,zGx l]
def zDG (ids:List Id)(c:Int):Id:=ids.getD c.toNat Id.zero
theorem zN1 {ids:List Id}{c:Int}{j:Nat}(h:c=j)(hj:j<ids.length):zDG ids c=ids[j]:=by subst h;unfold zDG;rw[Int.toNat_natCast,List.getD_eq_getElem?_getD,List.getElem?_eq_getElem hj];rfl
def yW (ids:List Id):AObj:=.row false 29 3 ids.length (zX ids)
mutual
theorem zKc (ids:List Id):∀(e:Exp),e.under ids.length→Ret Tryz.prog 37 [.agg (zF e),.row 0 ids.length] [yW ids] (.agg (zF (zBz (zDG ids) e))) [yW ids]
 | .mk a b c d t ks ns,hb=>by
  have ih:=zIC ids ks;simp only[Exp.under,zGx]at hb;obtain⟨⟨hb1,hb2⟩,hb3,hkl,hb4⟩:=hb;obtain⟨j,hj⟩:∃j:Nat,a.c=j:=⟨a.c.toNat,by omega⟩;have hjl:j<ids.length:=by omega
  have hdj:=yE hjl;have hej:=zN1 hj hjl;have hbj:j*3+3≤ids.length*3:=by omega
  refine zH Tryz.func37 rfl qFU (rs:=[.cell 4 15 true]) (by kernel_rfl) ?_;unfold zYz;obtain⟨x,hx⟩:∃x,x=ids[j]:=⟨_,rfl⟩;rw[←hx]at hej hdj;by_cases hv1:b=2
  ·by_cases hv2:d.b=0
   ·obtain⟨hb5,hb6⟩:=hb3 hv1 hv2;obtain⟨m,hm⟩:∃m:Nat,d.c=m:=⟨d.c.toNat,by omega⟩;have hml:m<ids.length:=by omega
    have hdm:=yE hml;have hem:=zN1 hm hml;have hbm:m*3+3≤ids.length*3:=by omega
    obtain⟨y,hy⟩:∃y,y=ids[m]:=⟨_,rfl⟩;rw[←hy]at hem hdm;simp[zF,yW,hj,hjl,hdj,hbj,hv1,hv2,hm,hml,hdm,hbm,qF];refine qY (S:=Nat) (fun i=>[(1,.row 0 ids.length),(2,.ptr 1 0),(4,.ptr 2 0),(5,.ptr 3 0),(6,int i)])
     (fun i=>[yW ids,.box (zF (.mk a b c d t ks ns)),.box (zF Exp.zero),.box [int x.a,int x.b,int x.c,int b,int c,int y.a,int y.b,int y.c,int t.k,int t.id.a,int t.id.b,int t.id.c,.sl t.kids.length (jJ t.kids),.row 4 i,.sl ns.length (yT ns)],.row false 37 15 i (qU ((ks.map (zBz (zDG ids))).take i))]) (fun i=>i≤ks.length) (fun i=>ks.length-i) 0 (by simp)
     ((zAa (l:=3) (o:=13) rfl rfl 37 15).trans (zR [0,1,2,3,4] 0 (by decide) (by simp) (by simp[yW,zF,Exp.zero,Id.zero,Typ.zero,hj,hv1,hv2,hm,hem]) (by simp))) ?_
    intro i hi;by_cases h:i<ks.length
    ·have hg:=ih ks[i] (List.getElem_mem h) (hb4 _ (List.getElem_mem h));have hst:=zAd (l:=ks.map (zBz (zDG ids))) (i:=i) (by rw[List.length_map]; exact h);rw[List.getElem_map]at hst;simp[yW,zF,h,yQ h];intro hl;refine yU hg [0] (by decide) (by simp[yW]) (by simp[zF]) (by decide) (by simp) (by simp) ?_;simp[yW];refine⟨⟨by omega,by omega⟩,?_⟩;exact zT (i+1) h (by omega) (zR [0,1,2,3,4] 0 (by decide) (by simp) (by rw[hst]; simp[yW,zF]) (by simp[qD h hl]))
    ·have hie:i=ks.length:=by omega
     subst hie;have hall:List.take ks.length (ks.map (zBz (zDG ids)))=ks.map (zBz (zDG ids)):=List.take_of_length_le (by simp);simp[yW,zF];intro _;exact zG [0] 1 (by decide) (by simp) (by simp) (by simp[zF,zBz,zDT,hej,hall,hv1,hv2,hem])
   ·simp[zF,yW,hj,hjl,hdj,hbj,hv1,hv2,qF];refine qY (S:=Nat) (fun i=>[(1,.row 0 ids.length),(2,.ptr 1 0),(4,.ptr 2 0),(5,.ptr 3 0),(6,int i)])
     (fun i=>[yW ids,.box (zF (.mk a b c d t ks ns)),.box (zF Exp.zero),.box [int x.a,int x.b,int x.c,int b,int c,int d.a,int d.b,int d.c,int t.k,int t.id.a,int t.id.b,int t.id.c,.sl t.kids.length (jJ t.kids),.row 4 i,.sl ns.length (yT ns)],.row false 37 15 i (qU ((ks.map (zBz (zDG ids))).take i))]) (fun i=>i≤ks.length) (fun i=>ks.length-i) 0 (by simp)
     ((zAa (l:=3) (o:=13) rfl rfl 37 15).trans (zR [0,1,2,3,4] 0 (by decide) (by simp) (by simp[yW,zF,Exp.zero,Id.zero,Typ.zero,hj,hv1,hv2]) (by simp))) ?_
    intro i hi;by_cases h:i<ks.length
    ·have hg:=ih ks[i] (List.getElem_mem h) (hb4 _ (List.getElem_mem h));have hst:=zAd (l:=ks.map (zBz (zDG ids))) (i:=i) (by rw[List.length_map]; exact h);rw[List.getElem_map]at hst;simp[yW,zF,h,yQ h];intro hl;refine yU hg [0] (by decide) (by simp[yW]) (by simp[zF]) (by decide) (by simp) (by simp) ?_;simp[yW];refine⟨⟨by omega,by omega⟩,?_⟩;exact zT (i+1) h (by omega) (zR [0,1,2,3,4] 0 (by decide) (by simp) (by rw[hst]; simp[yW,zF]) (by simp[qD h hl]))
    ·have hie:i=ks.length:=by omega
     subst hie;have hall:List.take ks.length (ks.map (zBz (zDG ids)))=ks.map (zBz (zDG ids)):=List.take_of_length_le (by simp);simp[yW,zF];intro _;exact zG [0] 1 (by decide) (by simp) (by simp) (by simp[zF,zBz,zDT,hej,hall,hv1,hv2])
  ·simp[zF,yW,hj,hjl,hdj,hbj,hv1,qF];refine qY (S:=Nat) (fun i=>[(1,.row 0 ids.length),(2,.ptr 1 0),(4,.ptr 2 0),(5,.ptr 3 0),(6,int i)])
    (fun i=>[yW ids,.box (zF (.mk a b c d t ks ns)),.box (zF Exp.zero),.box [int x.a,int x.b,int x.c,int b,int c,int d.a,int d.b,int d.c,int t.k,int t.id.a,int t.id.b,int t.id.c,.sl t.kids.length (jJ t.kids),.row 4 i,.sl ns.length (yT ns)],.row false 37 15 i (qU ((ks.map (zBz (zDG ids))).take i))]) (fun i=>i≤ks.length) (fun i=>ks.length-i) 0 (by simp)
    ((zAa (l:=3) (o:=13) rfl rfl 37 15).trans (zR [0,1,2,3,4] 0 (by decide) (by simp) (by simp[yW,zF,Exp.zero,Id.zero,Typ.zero,hj,hv1]) (by simp))) ?_
   intro i hi;by_cases h:i<ks.length
   ·have hg:=ih ks[i] (List.getElem_mem h) (hb4 _ (List.getElem_mem h));have hst:=zAd (l:=ks.map (zBz (zDG ids))) (i:=i) (by rw[List.length_map]; exact h);rw[List.getElem_map]at hst;simp[yW,zF,h,yQ h];intro hl;refine yU hg [0] (by decide) (by simp[yW]) (by simp[zF]) (by decide) (by simp) (by simp) ?_;simp[yW];refine⟨⟨by omega,by omega⟩,?_⟩;exact zT (i+1) h (by omega) (zR [0,1,2,3,4] 0 (by decide) (by simp) (by rw[hst]; simp[yW,zF]) (by simp[qD h hl]))
   ·have hie:i=ks.length:=by omega
    subst hie;have hall:List.take ks.length (ks.map (zBz (zDG ids)))=ks.map (zBz (zDG ids)):=List.take_of_length_le (by simp);simp[yW,zF];intro _;exact zG [0] 1 (by decide) (by simp) (by simp) (by simp[zF,zBz,zDT,hej,hall,hv1])
theorem zIC (ids:List Id):∀(ks:List Exp),∀x∈ks,x.under ids.length→Ret Tryz.prog 37 [.agg (zF x),.row 0 ids.length] [yW ids] (.agg (zF (zBz (zDG ids) x))) [yW ids]
 | [],x,hx=>by simp at hx
 | z::l,x,hx=>by
  rcases List.mem_cons.1 hx with e | hx
  ·rw[e]; exact zKc ids z
  ·exact zIC ids l x hx
end
def qEY:K:=G [kO 4 1,kO 5 2,kZ 6 kz2] (Z (K.dops [(0,0,kb 7 kz2 []),(1,0,kb 8 kz2 [(0,1,(kc 1))]),(2,0,kb 9 kz2 []),(3,0,kC 10 74 [(kt 9)]),(4,0,J 11 4 5),(5,0,J 12 5 5),(6,0,kb 13 kz2 []),(7,0,kd 14 33 5 6 qN7 [(0,5,(kt 7)),(5,5,(kt 8)),(10,5,(kt 10)),(15,5,(kt 11)),(20,5,(kt 12)),(25,5,(kt 13))]),(8,0,M 15 0),(9,0,kC 16 12 [(kt 15),(kc 6)]),(10,0,kX 17 14 16 5),(11,0,J 18 17 5),(12,0,S 6 18 5)]) kr)
theorem qL4:zL Tryz.prog Tryz.f73.ntmps (Tryz.f73.body.getD .skip)=some qEY.erase:=by kernel_rfl
@[simp] theorem qMB:zA Tryz.prog 73=true:=by kernel_rfl
def zSV:K:=(G [M 72 9,M 73 10,M 6 72,M 7 73] kr)
def zSU:K:=(G [M 50 0,M 51 1,kBi 52 51 2 .add,kC 53 31 [(kt 50),(kt 52),(kc 3)],M 11 53] (Z (G [M 54 11,kQi 55 54 1 false] (Y 55 (G [M 56 9,kb 57 kz2 [],kd 58 33 5 1 kz2 [(0,5,(kt 57))],kP 59 33 5 56 56 58,M 9 59] (K.ops [M 60 10,kd 61 3 1 1 [ki] [(0,1,(kc 1))],kP 62 3 1 8 60 61,M 10 62])) ks)) (Z (G [M 63 11,kQi 64 63 2 false] (Y 64 (G [M 65 9,kb 66 kz2 [(0,1,(kc 1))],kd 67 33 5 1 kz2 [(0,5,(kt 66))],kP 68 33 5 56 65 67,M 9 68] (K.ops [M 69 10,kd 70 3 1 1 [ki] [(0,1,(kc 0))],kP 71 3 1 8 69 70,M 10 71])) ks)) (K.wk zSV))))
def qEE:K:=G [kO 5 2,kMn 6,kMn 7] (G [M 12 0,M 13 1,kC 14 31 [(kt 12),(kt 13),(kc 5)],M 8 14] (G [kb 15 kz2 [],⟨none,.brow (some 16) 33 5 1 kz2 [(0,5,(kt 15))]⟩,M 9 16] (G [M 17 0,M 18 1,kBi 19 18 1 .add,kC 20 31 [(kt 17),(kt 19),(kc 3)],⟨none,.bin (some 21) .add (kc 1) (kt 20)⟩,⟨none,.brow (some 22) 3 1 1 [ki] [(0,1,(kt 21))]⟩,M 10 22] (Z (G [M 23 8,kQi 24 23 1 false] (Y 24 (G [M 25 9,kb 26 kz2 [(0,1,(kc 1))],kXi 27 25 5 0,S 27 26 5] (K.ops [M 28 10,kXi 29 28 1 0,⟨none,.st none (kt 29) (kc 0) 1⟩])) ks)) (Z (G [M 30 8,kQi 31 30 2 false] (Y 31 (G [M 32 9,kb 33 kz2 [],kC 34 74 [(kt 33)],kXi 35 32 5 0,S 35 34 5] (K.ops [M 36 10,M 37 0,M 38 1,kBi 39 38 1 .add,kC 40 31 [(kt 37),(kt 39),(kc 2)],⟨none,.bin (some 41) .add (kc 1) (kt 40)⟩,kXi 42 36 1 0,S 42 41 1])) ks)) (Z (G [M 43 8,kQi 44 43 3 false] (Y 44 (G [M 45 9,J 46 5 5,kXi 47 45 5 0,S 47 46 5] (K.ops [M 48 10,kXi 49 48 1 0,⟨none,.st none (kt 49) (kc 1) 1⟩])) ks)) (K.wk zSU)))))))
theorem qLk:zL Tryz.prog Tryz.f75.ntmps (Tryz.f75.body.getD .skip)=some qEE.erase:=by kernel_rfl
@[simp] theorem qMb:zA Tryz.prog 75=true:=by kernel_rfl
def zCg (x:Int)(one two:Typ):Typ:=[jG,jN,jH jG,one,two,jG].getD (zAq x 6).toNat jG
theorem zLH (x:Int)(one two:Typ)(hx:w64 x=x):Ret Tryz.prog 73 [int x,.agg (zB one),.agg (zB two)] [] (.agg (zB (zCg x one two))) []:=by
 obtain⟨k0,k6⟩:=zCR (k:=6) hx (by omega);have ha:=zH0 x 6 (by omega);have hk:zAq x 6=0∨zAq x 6=1∨zAq x 6=2∨zAq x 6=3∨zAq x 6=4∨zAq x 6=5:=by omega
 unfold zCg;generalize zAq x 6=k at ha k0 k6 hk;refine zH Tryz.func73 rfl qL4 (rs:=[.cell 6 5 true]) (by kernel_rfl) ?_;unfold qEY;simp[zB];refine qO zJC (by simp[zB,jG]) (by simp) ?_;simp[zB];refine qO ha (by simp) (by simp) ?_;rcases hk with rfl | rfl | rfl | rfl | rfl | rfl
 all_goals
  simp[zB,jG,jN,jH];exact zC 0 (by simp[zB,jG,jN,jH,Id.zero,qG])
def qBk (l:List Int)(at_:Int)(point:Typ):Typ×Int:=if atV l at_ 5=1 then (jN,0) else if atV l at_ 5=2 then (jH jG,1+atV l (at_+1) 2) else if atV l at_ 5=3 then (point,1) else (jG,1+atV l (at_+1) 3)
def zUE (l:List Int)(at_:Int):List (Typ×Int):=if atV l (at_+2) 3=1 then [(jG,1)] else if atV l (at_+2) 3=2 then [(jN,0)] else []
def inV (l:List Int)(at_:Int)(point:Typ):List (Typ×Int):=qBk l at_ point::zUE l at_
def zO7 (L:List (Typ×Int)):List A:=jJ (L.map (·.1))
def zI8 (L:List (Typ×Int)):List A:=yA (L.map (·.2))
def inR (L:List (Typ×Int)):A:=.tup [.sl L.length (zO7 L),.sl L.length (zI8 L)]
theorem zUF (l:List Int)(at_:Int)(ha:0≤at_)(ha':at_≤1000)(hl:∀x∈l,w64 x=x)(p:Typ×Int) :
 wpK Tryz.prog 0 zSU (fin [RS.slot 6,RS.slot 7] (zHy 0 (inR (p::zUE l at_)) [])) (qR [(0,.sl l.length (yA l)),(1,int at_),(9,.row 0 1),(10,.row 1 1)])
  [.row false 33 5 1 (zB p.1),.row false 3 1 1 [int p.2]]:=by
 have w2:IntKind.i64.wrap (at_+2)=at_+2:=IntWalk.i64_in _ (by omega)
 have h3:=zBw l (at_+2) 3 (by omega);unfold zUE;generalize atV l (at_+2) 3=z at *
 have tailU:∀L:List (Typ×Int),wpK Tryz.prog 0 zSV (fin [RS.slot 6,RS.slot 7] (zHy 0 (inR L) [])) (qR [(9,.sl L.length (zO7 L)),(10,.sl L.length (zI8 L))]) []:=fun L=>by unfold zSV;simp;exact zC 0 (by simp[inR,zO7,zI8])
 unfold zSU;simp[w2];refine zQ h3 (by simp) (by simp) ?_;by_cases hz1:z=1
 ·simp[hz1,maxLen];exact⟨_,_,zR [] 1 (by decide) (by simp) (by simp) (by simp[zO7,zI8,qG,zB,jG,Id.zero]),tailU _⟩
 ·by_cases hz2:z=2
  ·simp[hz1,hz2,maxLen];exact⟨_,_,zR [] 1 (by decide) (by simp) (by simp) (by simp[zO7,zI8,qG,zB,jN,Id.zero]),tailU _⟩
  ·simp[hz1,hz2,maxLen];exact⟨_,_,zR [] 1 (by decide) (by simp) (by simp) (by simp[zO7,zI8,qG,zB,jN,Id.zero]),tailU _⟩
theorem qBl (l:List Int)(at_:Int)(point:Typ)(ha:0≤at_)(ha':at_≤1000)(hl:∀x∈l,w64 x=x) :
 Ret Tryz.prog 75 [.sl l.length (yA l),int at_,.agg (zB point)] [] (inR (inV l at_ point)) []:=by
 have w1:IntKind.i64.wrap (at_+1)=at_+1:=IntWalk.i64_in _ (by omega)
 have h0:=zBw l at_ 5 (by omega)
 have h1:=zBw l (at_+1) 3 (by omega);have h2:=zBw l (at_+1) 2 (by omega);have ht:=zUF l at_ ha ha' hl
 obtain⟨r1,r1'⟩:=jY (i:=at_+1) hl (most:=3) (by omega);obtain⟨r2,r2'⟩:=jY (i:=at_+1) hl (most:=2) (by omega);unfold inV qBk;generalize atV l at_ 5=x at *
 generalize atV l (at_+1) 3=y1 at *
 generalize atV l (at_+1) 2=y2 at *
 have v1:IntKind.i64.wrap (1+y1)=1+y1:=IntWalk.i64_in _ (by omega);have v2:IntKind.i64.wrap (1+y2)=1+y2:=IntWalk.i64_in _ (by omega);refine zI Tryz.func75 rfl qLk (rs:=[.slot 6,.slot 7]) (by kernel_rfl) ?_;unfold qEE;simp[zB];refine zQ h0 (by simp) (by simp) ?_;simp[w1];refine zQ h1 (by simp) (by simp) ?_;by_cases hx1:x=1
 ·simp[v1,hx1];exact⟨_,_,zR [1,2] 0 (by decide) (by simp) (by simp[zB,jN,Id.zero]) (by simp),ht (jN,0)⟩
 ·by_cases hx2:x=2
  ·simp[v1,hx1,hx2];refine zQ zJC (by simp[zB,jG,Id.zero]) (by simp) ?_;simp[zB,w1];refine zQ h2 (by simp) (by simp) ?_;simp[v2];exact⟨_,_,zR [1,2] 0 (by decide) (by simp) (by simp[zB,jH,Id.zero]) (by simp),ht (jH jG,1+y2)⟩
  ·by_cases hx3:x=3
   ·simp[v1,hx1,hx2,hx3];exact⟨_,_,zR [1,2] 0 (by decide) (by simp) (by simp[zB]) (by simp),ht (point,1)⟩
   ·simp[v1,hx1,hx2,hx3];exact⟨_,_,zR [1,2] 0 (by decide) (by simp) (by simp[zB,jG,Id.zero]) (by simp),ht (jG,1+y1)⟩
@[simp] theorem qGi:zA Tryz.prog 111=true:=by kernel_rfl
@[simp] theorem qC4:zA Tryz.prog 62=true:=by kernel_rfl
@[simp] theorem qGm:zA Tryz.prog 63=true:=by kernel_rfl
@[simp] theorem qGr:zA Tryz.prog 64=true:=by kernel_rfl
@[simp] theorem qGq:zA Tryz.prog 60=true:=by kernel_rfl
def zYl:K:=G [kO 1 0,kMb 2 false] (G [D 3 1 3,L 4 3 1,kQi 5 4 2 false,M 6 5,T 6 false (D 7 1 3),T 6 false (L 8 7 1),T 6 false (kQi 9 8 3 false),kPt 10 6 9,M 11 10,T 11 false (D 12 1 3),T 11 false (L 13 12 1),T 11 false (kQi 14 13 4 false),kPt 15 11 14,M 16 15,T 16 false (D 17 1 3),T 16 false (L 18 17 1),T 16 false (kQi 19 18 5 false),kPt 20 16 19,M 2 20] kr)
theorem qFI:zL Tryz.prog Tryz.f25.ntmps (Tryz.f25.body.getD .skip)=some zYl.erase:=by kernel_rfl
@[simp] theorem qIU:zA Tryz.prog 25=true:=by kernel_rfl
mutual
def zBH:Exp→List Exp
 | .mk a b c d t ks ns=>.mk a b c d t ks ns::zCn ks
def zCn:List Exp→List Exp
 | []=>[]
 | e::l=>zBH e++zCn l
end
theorem zJd (e:Exp):zBH e=e::zCn e.kids:=by cases e; simp only[zBH,Exp.kids]
mutual
theorem zJe:∀e:Exp,(zBH e).length=(tmps e).length
 | .mk a b c d t ks ns=>by have:=zJf ks;simp only[zBH,tmps,List.length_cons,List.length_append,List.length_nil,this]
theorem zJf:∀l:List Exp,(zCn l).length=(jA l).length
 | []=>rfl
 | e::l=>by have:=zJe e;have:=zJf l;simp only[zCn,jA,List.length_append, *]
end
theorem zMf (d:Dfn):Ret Tryz.prog 25 [.agg (zO d)] [] (bl (zA9 d.kind)) []:=by
 refine zI Tryz.func25 rfl qFI (rs:=[.slot 2]) (by kernel_rfl) ?_;unfold zYl;by_cases h2:d.kind=2
 ·simp[zO,h2];exact zC 0 (by simp[zA9,h2])
 ·by_cases h3:d.kind=3
  ·simp[zO,h3];exact zC 0 (by simp[zA9,h3])
  ·by_cases h4:d.kind=4
   ·simp[zO,h4];exact zC 0 (by simp[zA9,h4])
   ·simp[zO,h2,h3,h4];exact zC 0 (by simp[zA9,h2,h3,h4])
def zCu (ds:List Dfn):List Exp:=ds.flatMap fun d=>if zA9 d.kind then zBH d.body else []
theorem zSt (ds:List Dfn)(B:Nat)(h:∀d∈ds,(tmps d.body).length≤B):(zCu ds).length≤ds.length*B:=by
 induction ds with
 | nil=>simp[zCu]
 | cons d ds ih =>
  have h1:=h d (by simp);have h2:=ih fun d hd=>h d (by simp[hd])
  have e:zCu (d::ds)=(if zA9 d.kind then zBH d.body else [])++zCu ds:=by simp[zCu]
  rw[e,List.length_append,List.length_cons,Nat.succ_mul];have h3:(if zA9 d.kind=true then zBH d.body else []).length≤B:=by
   split
   ·rw[zJe]; exact h1
   ·simp
  omega
end Go.Proofs.YthglhccibdlccaaGreatDoor
