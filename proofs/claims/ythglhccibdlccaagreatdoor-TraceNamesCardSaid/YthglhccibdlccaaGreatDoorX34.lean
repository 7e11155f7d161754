/-
  The number of nodes, their numbers, their IDs.
  The maker's plans: what definitions are to be made.
  The reference's nodes, in preorder; the first node with an ID; same nodes and definitions.
-/
import Derived.Test.YthglhccibdlccaaGreatDoorX33
import Derived.Test.YthglhccibdlccaaGreatDoorX25
import Derived.Test.YthglhccibdlccaaGreatDoorX27
set_option linter.unusedVariables false
set_option linter.unusedSimpArgs false
namespace Go.Proofs.YthglhccibdlccaaGreatDoor
open Go.Abs
def zZE:K:=G [kO 1 0,kMi 2 0] (G [kMi 3 1] (Z (G [kMi 4 0] (K.block 0 (K.loop (Z (G [M 5 4,D 6 1 13,L 7 6 1,kN 8 7,kB 9 5 8 .lss] (Y 9 ks (K.exit 0))) (Z (K.block 1 (K.ops [M 12 3,D 13 1 13,L 14 13 1,M 15 4,kX 16 14 15 15,J 17 16 15,kC 18 35 [(kt 17)],kB 19 12 18 .add,M 3 19])) (K.ops [M 10 4,kBi 11 10 1 .add,M 4 11])))))) (G [M 20 3,M 2 20] kr)))
theorem qHo:zK Tryz.prog Tryz.f35.ntmps (Tryz.f35.body.getD .skip)=some zZE.erase:=by kernel_rfl
@[simp] theorem qKv:zA Tryz.prog 35=true:=by kernel_rfl
def zUi:K:=G [kO 2 0,kMn 4] (Z (G [kMi 5 0] (K.block 0 (K.loop (Z (G [M 6 5,D 7 2 13,L 8 7 1,kN 9 8,kB 10 6 9 .lss] (Y 10 ks (K.exit 0))) (Z (K.block 1 (K.ops [D 13 2 13,L 14 13 1,M 15 5,kX 16 14 15 15,J 17 16 15,M 18 1,kC 19 36 [(kt 17),(kt 18)],M 1 19])) (K.ops [M 11 5,kBi 12 11 1 .add,M 5 12])))))) (G [M 20 1,D 21 2 0,D 22 21 2,L 23 22 1,kd 24 3 1 1 [ki] [(0,1,(kt 23))],kP 25 3 1 8 20 24,M 4 25] kr))
theorem qAa:zK Tryz.prog Tryz.f36.ntmps (Tryz.f36.body.getD .skip)=some zUi.erase:=by kernel_rfl
@[simp] theorem qKx:zA Tryz.prog 36=true:=by kernel_rfl
def zZJ:K:=G [kO 2 0,kZ 4 kz1] (G [J 7 2 15,kZ 5 kz1,S 5 7 15] (G [M 8 1,D 9 2 0,D 10 9 2,L 11 10 1,kX 12 8 11 3,J 13 12 3,D 14 5 0,S 14 13 3] (Z (G [D 15 2 3,L 16 15 1,kQi 17 16 2 false,M 18 17,T 18 true (D 19 2 5),T 18 true (D 20 19 1),T 18 true (L 21 20 1),T 18 true (kQi 22 21 0 false),kPf 23 18 22] (Y 23 (K.ops [M 24 1,D 25 2 5,D 26 25 2,L 27 26 1,kX 28 24 27 3,J 29 28 3,D 30 5 5,S 30 29 3]) ks)) (G [D 31 5 13,⟨none,.st none (kt 31) (.const kl) 1⟩] (Z (G [kMi 6 0] (K.block 0 (K.loop (Z (G [M 32 6,D 33 2 13,L 34 33 1,kN 35 34,kB 36 32 35 .lss] (Y 36 ks (K.exit 0))) (Z (K.block 1 (K.dops [(0,2,D 39 5 13),(1,2001,L 40 39 1),(2,0,D 41 2 13),(3,0,L 42 41 1),(4,0,M 43 6),(5,0,kX 44 42 43 15),(6,0,J 45 44 15),(7,0,M 46 1),(8,1001,kC 47 37 [(kt 45),(kt 46)]),(9,0,kd 48 37 15 1 kz1 [(0,15,(kt 47))]),(10,0,kP 49 37 15 168 40 48),(11,2,D 50 5 13),(12,0,S 50 49 1)])) (K.ops [M 37 6,kBi 38 37 1 .add,M 6 38])))))) (G [J 51 5 15,S 4 51 15] kr))))))
def qIl:Nat→Option (List (Nat×Nat)):=fun r=>match r with | 9=>some [(0,2),(1,2001),(2,0),(3,0),(4,0),(5,0),(6,0),(7,0),(8,1001),(9,0),(10,0),(11,2),(12,0)] | _=>none
theorem qHs:qD Tryz.prog Tryz.f37.ntmps qIl (Tryz.f37.body.getD .skip)=some zZJ.erase:=by kernel_rfl
@[simp] theorem qK0:zA Tryz.prog 37=true:=by kernel_rfl
@[simp] theorem qJC {d:Option Nat}{x:Operand}{n:Nat}{g:Bool}{env:Env}:zAP 2001 (.ld d x n g) env=zBU 1 (ev env x):=propext (zJv (by omega) (by omega))
@[simp] theorem qDw {d:Option Nat}{x:Operand}{l:List Operand}{env:Env}:zAP 1001 (.call d x l) env=True:=rfl
@[simp] theorem qEN {σ : St}:zD4 2001 σ = σ:=rfl
theorem zAs (e:Exp):tmps e=qW e.kids++[e.id.c]:=by cases e; simp only[tmps,Exp.kids,Exp.id]
theorem yM {l:List Exp}{i:Nat}(h:i<l.length):qW (l.take (i+1))=qW (l.take i)++tmps l[i]:=by rw[List.take_succ_eq_append_getElem h,zD6]
theorem zF4:∀{l:List Exp} {e:Exp},e∈l→(tmps e).length≤(qW l).length
 | x::l,e,h=>by
  simp only[qW,List.length_append];rcases List.mem_cons.1 h with rfl | h
  ·omega
  ·have:=zF4 h; omega
theorem zCJ {l:List Exp}(i:Nat):(qW (l.take i)).length≤(qW l).length:=by
 have h:∀a b:List Exp,qW (a++b)=qW a++qW b:=fun a b=>by
  induction a with
  | nil=>simp[qW]
  | cons x a ih=>simp[qW,ih]
 have:=h (l.take i) (l.drop i);rw[List.take_append_drop]at this;rw[this,List.length_append];omega
mutual
theorem zOM:∀(e:Exp),(tmps e).length≤1000000000→Ret Tryz.prog 35 [.agg (zF e)] [] (int (tmps e).length) []
 | .mk a b c d t l ns,hle=>by
  have ih:=zMo l;generalize ha:Exp.mk a b c d t l ns=e at hle;have hal:e.kids=l:=by rw[←ha]; rfl
  rw[←hal]at ih;rw[zAs,List.length_append,List.length_singleton]at hle;refine zH Tryz.func35 rfl qHo (rs:=[.slot 2]) (by kernel_rfl) ?_;unfold zZE;simp[zF];refine qR (S:=Nat) (fun i=>[(1,.ptr 0 0),(3,int ((qW (e.kids.take i)).length+1:Nat)),(4,int i)]) (fun _=>[.box (zF e)]) (fun i=>i≤e.kids.length) (fun i=>e.kids.length-i) 0 (by simp)
   (zP [0] 0 (by decide) (by simp) (by simp[zF]) (by simp[qW])) ?_
  intro i hi;by_cases h:i<e.kids.length
  ·have hle2:(tmps e.kids[i]).length≤1000000000:=by have:=zF4 (List.getElem_mem h); omega
   have h3:=zCJ (l:=e.kids) (i+1);rw[yM h,List.length_append]at h3;simp[zF,h,yJ h];intro hl;refine zR (ih e.kids[i] (List.getElem_mem h) hle2) (by simp[zF]) (by simp) ?_;have hw:IntKind.i64.wrap ((((qW (e.kids.take i)).length:Int)+1)+((tmps e.kids[i]).length:Int))=((qW (e.kids.take i)).length:Int)+1+(tmps e.kids[i]).length:=IntWalk.i64_in _ (by omega);simp[hw];exact zS (i+1) h (by omega) (zP [0] 0 (by decide) (by simp) (by simp[zF]) (by simp[qA h hl,yM h]; omega))
  ·have hie:i=e.kids.length:=by omega
   subst hie;simp[zF]
   first | exact fun _=>zC 0 (by simp[zAs]) | exact zC 0 (by simp[zAs])
theorem zMo:∀(l:List Exp),∀x∈l,(tmps x).length≤1000000000→Ret Tryz.prog 35 [.agg (zF x)] [] (int (tmps x).length) []
 | [],x,hx=>by simp at hx
 | z::l,x,hx=>by
  rcases List.mem_cons.1 hx with e | hx
  ·rw[e]; exact zOM z
  ·exact zMo l x hx
end
def zCA (l:List Int):AObj:=.row false 3 1 l.length (yB l)
mutual
theorem zMp:∀(e:Exp) (l:List Int),l.length+(tmps e).length≤1000000000→Ret Tryz.prog 36 [.agg (zF e),.row 0 l.length] [zCA l] (.row 0 (l++tmps e).length) [zCA (l++tmps e)]
 | .mk a b c d t ks ns,l,hle=>by
  have ih:=zK2 ks;generalize ha:Exp.mk a b c d t ks ns=e at hle;have hal:e.kids=ks:=by rw[←ha]; rfl
  rw[←hal]at ih;rw[zAs,List.length_append,List.length_singleton]at hle;refine zH Tryz.func36 rfl qAa (rs:=[.slot 4]) (by kernel_rfl) ?_;unfold zUi;simp[zF,zCA];refine qR (S:=Nat) (fun i=>[(1,.row 0 (l++qW (e.kids.take i)).length),(2,.ptr 1 0),(5,int i)]) (fun i=>[zCA (l++qW (e.kids.take i)),.box (zF e)]) (fun i=>i≤e.kids.length) (fun i=>e.kids.length-i) 0 (by simp)
   (zP [0,1] 0 (by decide) (by simp) (by simp[zF,zCA,qW]) (by simp[qW])) ?_
  intro i hi;by_cases h:i<e.kids.length
  ·have h3:=zCJ (l:=e.kids) (i+1);rw[yM h,List.length_append]at h3;have hg:=ih e.kids[i] (List.getElem_mem h) (l++qW (e.kids.take i)) (by rw[List.length_append]; omega);simp[zF,zCA,h,yJ h];intro hl;refine zN hg [0] (by decide) (by simp[zCA,zCN]) (by simp[zF]) ?_;simp[zCA];exact zS (i+1) h (by omega) (zP [0,1] 0 (by decide) (by simp) (by simp[zF,zCA,yM h,zCN]) (by simp[qA h hl,yM h]))
  ·have hie:i=e.kids.length:=by omega
   subst hie;simp[zF,zCA];intro _;refine⟨⟨by simp[maxLen]; omega,by omega⟩,?_⟩;exact zG [0] 0 (by decide) (by simp) (by simp[zAs,zCN]; omega) (by simp[zAs]; omega)
theorem zK2:∀(ks:List Exp),∀x∈ks,∀(l:List Int),l.length+(tmps x).length≤1000000000→Ret Tryz.prog 36 [.agg (zF x),.row 0 l.length] [zCA l] (.row 0 (l++tmps x).length) [zCA (l++tmps x)]
 | [],x,hx=>by simp at hx
 | z::l,x,hx=>by
  rcases List.mem_cons.1 hx with e | hx
  ·rw[e]; exact zMp z
  ·exact zK2 l x hx
end
theorem zQ6 (e:Exp)(hle:(tmps e).length≤1000000000):Ret Tryz.prog 36 [.agg (zF e),.nil] [] (.row 0 (tmps e).length) [zCA (tmps e)]:=by
 rw[zAs,List.length_append,List.length_singleton]at hle;refine zH Tryz.func36 rfl qAa (rs:=[.slot 4]) (by kernel_rfl) ?_;unfold zUi;simp[zF,zCA];refine qR (S:=Nat) (fun i=>[(1,.row 0 (qW (e.kids.take i)).length),(2,.ptr 1 0),(5,int i)]) (fun i=>[zCA (qW (e.kids.take i)),.box (zF e)]) (fun i=>i≤e.kids.length) (fun i=>e.kids.length-i) 0 (by simp)
  ((jV (t:=1) (by simp) 3 1).trans (zP [1,0] 0 (by decide) (by simp) (by simp[zF,zCA,qW]) (by simp[qW]))) ?_
 intro i hi;by_cases h:i<e.kids.length
 ·have h3:=zCJ (l:=e.kids) (i+1);rw[yM h,List.length_append]at h3;have hg:=zMp e.kids[i] (qW (e.kids.take i)) (by omega);simp[zF,zCA,h,yJ h];intro hl;refine zN hg [0] (by decide) (by simp[zCA]) (by simp[zF]) ?_;simp[zCA];exact zS (i+1) h (by omega) (zP [0,1] 0 (by decide) (by simp) (by simp[zF,zCA,yM h,zCN]) (by simp[qA h hl,yM h]))
 ·have hie:i=e.kids.length:=by omega
  subst hie;simp[zF,zCA];intro _;refine⟨⟨by simp[maxLen]; omega,by omega⟩,?_⟩;exact zG [0] 0 (by decide) (by simp) (by simp[zAs,zCN]) (by simp[zAs])
mutual
def zBK (f:Int→Id):Exp→Exp
 | .mk i k n r t ks ns=>.mk (f i.c) k n (if k=2∧r.b=0 then f r.c else r) t (zH3 f ks) ns
def zH3 (f:Int→Id):List Exp→List Exp
 | []=>[]
 | e::l=>zBK f e::zH3 f l
end
theorem zEl (f:Int→Id):∀l:List Exp,zH3 f l=l.map (zBK f)
 | []=>rfl
 | e::l=>by simp only[zH3,List.map_cons,zEl f l]
mutual
def Exp.under (N:Nat):Exp→Prop
 | .mk i k _ r _ ks _=>(0≤i.c∧i.c<N)∧(k=2→r.b=0→0≤r.c∧r.c<N)∧ks.length≤1000000000∧zI2 N ks
def zI2 (N:Nat):List Exp→Prop
 | []=>True
 | e::l=>e.under N∧zI2 N l
end
theorem zGJ {N:Nat}:∀l:List Exp,zI2 N l↔∀e∈l,e.under N
 | []=>by simp[zI2]
 | e::l=>by simp[zI2,zGJ l]
def zDY (ids:List Id)(c:Int):Id:=ids.getD c.toNat Id.zero
theorem zOs {ids:List Id}{c:Int}{j:Nat}(h:c=j)(hj:j<ids.length):zDY ids c=ids[j]:=by subst h;unfold zDY;rw[Int.toNat_natCast,List.getD_eq_getElem?_getD,List.getElem?_eq_getElem hj];rfl
def zAe (ids:List Id):AObj:=.row false 29 3 ids.length (zY ids)
mutual
theorem zKC (ids:List Id):∀(e:Exp),e.under ids.length→Ret Tryz.prog 37 [.agg (zF e),.row 0 ids.length] [zAe ids] (.agg (zF (zBK (zDY ids) e))) [zAe ids]
 | .mk a b c d t ks ns,hb=>by
  have ih:=zIX ids ks;simp only[Exp.under,zGJ]at hb;obtain⟨⟨hb1,hb2⟩,hb3,hkl,hb4⟩:=hb;obtain⟨j,hj⟩:∃j:Nat,a.c=j:=⟨a.c.toNat,by omega⟩;have hjl:j<ids.length:=by omega
  have hdj:=yK hjl;have hej:=zOs hj hjl;have hbj:j*3+3≤ids.length*3:=by omega
  refine zI Tryz.func37 rfl qHs (rs:=[.cell 4 15 true]) (by kernel_rfl) ?_;unfold zZJ;obtain⟨x,hx⟩:∃x,x=ids[j]:=⟨_,rfl⟩;rw[←hx]at hej hdj;by_cases hv1:b=2
  ·by_cases hv2:d.b=0
   ·obtain⟨hb5,hb6⟩:=hb3 hv1 hv2;obtain⟨m,hm⟩:∃m:Nat,d.c=m:=⟨d.c.toNat,by omega⟩;have hml:m<ids.length:=by omega
    have hdm:=yK hml;have hem:=zOs hm hml;have hbm:m*3+3≤ids.length*3:=by omega
    obtain⟨y,hy⟩:∃y,y=ids[m]:=⟨_,rfl⟩;rw[←hy]at hem hdm;simp[zF,zAe,hj,hjl,hdj,hbj,hv1,hv2,hm,hml,hdm,hbm,jK];refine qR (S:=Nat) (fun i=>[(1,.row 0 ids.length),(2,.ptr 1 0),(4,.ptr 2 0),(5,.ptr 3 0),(6,int i)])
     (fun i=>[zAe ids,.box (zF (.mk a b c d t ks ns)),.box (zF Exp.zero),.box [int x.a,int x.b,int x.c,int b,int c,int y.a,int y.b,int y.c,int t.k,int t.id.a,int t.id.b,int t.id.c,.sl t.kids.length (jI t.kids),.row 4 i,.sl ns.length (yF ns)],.row false 37 15 i (qL ((ks.map (zBK (zDY ids))).take i))]) (fun i=>i≤ks.length) (fun i=>ks.length-i) 0 (by simp)
     ((yU (l:=3) (o:=13) rfl rfl 37 15).trans (zP [0,1,2,3,4] 0 (by decide) (by simp) (by simp[zAe,zF,Exp.zero,Id.zero,Typ.zero,hj,hv1,hv2,hm,hem]) (by simp))) ?_
    intro i hi;by_cases h:i<ks.length
    ·have hg:=ih ks[i] (List.getElem_mem h) (hb4 _ (List.getElem_mem h));have hst:=yY (l:=ks.map (zBK (zDY ids))) (i:=i) (by rw[List.length_map]; exact h);rw[List.getElem_map]at hst;simp[zAe,zF,h,yJ h];intro hl;refine zAc hg [0] (by decide) (by simp[zAe]) (by simp[zF]) (by decide) (by simp) (by simp) ?_;simp[zAe];refine⟨⟨by omega,by omega⟩,?_⟩;exact zS (i+1) h (by omega) (zP [0,1,2,3,4] 0 (by decide) (by simp) (by rw[hst]; simp[zAe,zF]) (by simp[qA h hl]))
    ·have hie:i=ks.length:=by omega
     subst hie;have hall:List.take ks.length (ks.map (zBK (zDY ids)))=ks.map (zBK (zDY ids)):=List.take_of_length_le (by simp);simp[zAe,zF];intro _;exact zG [0] 1 (by decide) (by simp) (by simp) (by simp[zF,zBK,zEl,hej,hall,hv1,hv2,hem])
   ·simp[zF,zAe,hj,hjl,hdj,hbj,hv1,hv2,jK];refine qR (S:=Nat) (fun i=>[(1,.row 0 ids.length),(2,.ptr 1 0),(4,.ptr 2 0),(5,.ptr 3 0),(6,int i)])
     (fun i=>[zAe ids,.box (zF (.mk a b c d t ks ns)),.box (zF Exp.zero),.box [int x.a,int x.b,int x.c,int b,int c,int d.a,int d.b,int d.c,int t.k,int t.id.a,int t.id.b,int t.id.c,.sl t.kids.length (jI t.kids),.row 4 i,.sl ns.length (yF ns)],.row false 37 15 i (qL ((ks.map (zBK (zDY ids))).take i))]) (fun i=>i≤ks.length) (fun i=>ks.length-i) 0 (by simp)
     ((yU (l:=3) (o:=13) rfl rfl 37 15).trans (zP [0,1,2,3,4] 0 (by decide) (by simp) (by simp[zAe,zF,Exp.zero,Id.zero,Typ.zero,hj,hv1,hv2]) (by simp))) ?_
    intro i hi;by_cases h:i<ks.length
    ·have hg:=ih ks[i] (List.getElem_mem h) (hb4 _ (List.getElem_mem h));have hst:=yY (l:=ks.map (zBK (zDY ids))) (i:=i) (by rw[List.length_map]; exact h);rw[List.getElem_map]at hst;simp[zAe,zF,h,yJ h];intro hl;refine zAc hg [0] (by decide) (by simp[zAe]) (by simp[zF]) (by decide) (by simp) (by simp) ?_;simp[zAe];refine⟨⟨by omega,by omega⟩,?_⟩;exact zS (i+1) h (by omega) (zP [0,1,2,3,4] 0 (by decide) (by simp) (by rw[hst]; simp[zAe,zF]) (by simp[qA h hl]))
    ·have hie:i=ks.length:=by omega
     subst hie;have hall:List.take ks.length (ks.map (zBK (zDY ids)))=ks.map (zBK (zDY ids)):=List.take_of_length_le (by simp);simp[zAe,zF];intro _;exact zG [0] 1 (by decide) (by simp) (by simp) (by simp[zF,zBK,zEl,hej,hall,hv1,hv2])
  ·simp[zF,zAe,hj,hjl,hdj,hbj,hv1,jK];refine qR (S:=Nat) (fun i=>[(1,.row 0 ids.length),(2,.ptr 1 0),(4,.ptr 2 0),(5,.ptr 3 0),(6,int i)])
    (fun i=>[zAe ids,.box (zF (.mk a b c d t ks ns)),.box (zF Exp.zero),.box [int x.a,int x.b,int x.c,int b,int c,int d.a,int d.b,int d.c,int t.k,int t.id.a,int t.id.b,int t.id.c,.sl t.kids.length (jI t.kids),.row 4 i,.sl ns.length (yF ns)],.row false 37 15 i (qL ((ks.map (zBK (zDY ids))).take i))]) (fun i=>i≤ks.length) (fun i=>ks.length-i) 0 (by simp)
    ((yU (l:=3) (o:=13) rfl rfl 37 15).trans (zP [0,1,2,3,4] 0 (by decide) (by simp) (by simp[zAe,zF,Exp.zero,Id.zero,Typ.zero,hj,hv1]) (by simp))) ?_
   intro i hi;by_cases h:i<ks.length
   ·have hg:=ih ks[i] (List.getElem_mem h) (hb4 _ (List.getElem_mem h));have hst:=yY (l:=ks.map (zBK (zDY ids))) (i:=i) (by rw[List.length_map]; exact h);rw[List.getElem_map]at hst;simp[zAe,zF,h,yJ h];intro hl;refine zAc hg [0] (by decide) (by simp[zAe]) (by simp[zF]) (by decide) (by simp) (by simp) ?_;simp[zAe];refine⟨⟨by omega,by omega⟩,?_⟩;exact zS (i+1) h (by omega) (zP [0,1,2,3,4] 0 (by decide) (by simp) (by rw[hst]; simp[zAe,zF]) (by simp[qA h hl]))
   ·have hie:i=ks.length:=by omega
    subst hie;have hall:List.take ks.length (ks.map (zBK (zDY ids)))=ks.map (zBK (zDY ids)):=List.take_of_length_le (by simp);simp[zAe,zF];intro _;exact zG [0] 1 (by decide) (by simp) (by simp) (by simp[zF,zBK,zEl,hej,hall,hv1])
theorem zIX (ids:List Id):∀(ks:List Exp),∀x∈ks,x.under ids.length→Ret Tryz.prog 37 [.agg (zF x),.row 0 ids.length] [zAe ids] (.agg (zF (zBK (zDY ids) x))) [zAe ids]
 | [],x,hx=>by simp at hx
 | z::l,x,hx=>by
  rcases List.mem_cons.1 hx with e | hx
  ·rw[e]; exact zKC ids z
  ·exact zIX ids l x hx
end
def qGw:K:=G [kO 4 1,kO 5 2,kZ 6 kz2] (Z (K.dops [(0,0,kb 7 kz2 []),(1,0,kb 8 kz2 [(0,1,(kc 1))]),(2,0,kb 9 kz2 []),(3,0,kC 10 74 [(kt 9)]),(4,0,J 11 4 5),(5,0,J 12 5 5),(6,0,kb 13 kz2 []),(7,0,kd 14 33 5 6 qOQ [(0,5,(kt 7)),(5,5,(kt 8)),(10,5,(kt 10)),(15,5,(kt 11)),(20,5,(kt 12)),(25,5,(kt 13))]),(8,0,M 15 0),(9,0,kC 16 12 [(kt 15),(kc 6)]),(10,0,kX 17 14 16 5),(11,0,J 18 17 5),(12,0,S 6 18 5)]) kr)
theorem qMQ:zK Tryz.prog Tryz.f73.ntmps (Tryz.f73.body.getD .skip)=some qGw.erase:=by kernel_rfl
@[simp] theorem qNW:zA Tryz.prog 73=true:=by kernel_rfl
def zUd:K:=(G [M 72 9,M 73 10,M 6 72,M 7 73] kr)
def zUc:K:=(G [M 50 0,M 51 1,kBi 52 51 2 .add,kC 53 31 [(kt 50),(kt 52),(kc 3)],M 11 53] (Z (G [M 54 11,kQi 55 54 1 false] (Y 55 (G [M 56 9,kb 57 kz2 [],kd 58 33 5 1 kz2 [(0,5,(kt 57))],kP 59 33 5 56 56 58,M 9 59] (K.ops [M 60 10,kd 61 3 1 1 [ki] [(0,1,(kc 1))],kP 62 3 1 8 60 61,M 10 62])) ks)) (Z (G [M 63 11,kQi 64 63 2 false] (Y 64 (G [M 65 9,kb 66 kz2 [(0,1,(kc 1))],kd 67 33 5 1 kz2 [(0,5,(kt 66))],kP 68 33 5 56 65 67,M 9 68] (K.ops [M 69 10,kd 70 3 1 1 [ki] [(0,1,(kc 0))],kP 71 3 1 8 69 70,M 10 71])) ks)) (K.wk zUd))))
def qGa:K:=G [kO 5 2,kMn 6,kMn 7] (G [M 12 0,M 13 1,kC 14 31 [(kt 12),(kt 13),(kc 5)],M 8 14] (G [kb 15 kz2 [],⟨none,.brow (some 16) 33 5 1 kz2 [(0,5,(kt 15))]⟩,M 9 16] (G [M 17 0,M 18 1,kBi 19 18 1 .add,kC 20 31 [(kt 17),(kt 19),(kc 3)],⟨none,.bin (some 21) .add (kc 1) (kt 20)⟩,⟨none,.brow (some 22) 3 1 1 [ki] [(0,1,(kt 21))]⟩,M 10 22] (Z (G [M 23 8,kQi 24 23 1 false] (Y 24 (G [M 25 9,kb 26 kz2 [(0,1,(kc 1))],kXi 27 25 5 0,S 27 26 5] (K.ops [M 28 10,kXi 29 28 1 0,⟨none,.st none (kt 29) (kc 0) 1⟩])) ks)) (Z (G [M 30 8,kQi 31 30 2 false] (Y 31 (G [M 32 9,kb 33 kz2 [],kC 34 74 [(kt 33)],kXi 35 32 5 0,S 35 34 5] (K.ops [M 36 10,M 37 0,M 38 1,kBi 39 38 1 .add,kC 40 31 [(kt 37),(kt 39),(kc 2)],⟨none,.bin (some 41) .add (kc 1) (kt 40)⟩,kXi 42 36 1 0,S 42 41 1])) ks)) (Z (G [M 43 8,kQi 44 43 3 false] (Y 44 (G [M 45 9,J 46 5 5,kXi 47 45 5 0,S 47 46 5] (K.ops [M 48 10,kXi 49 48 1 0,⟨none,.st none (kt 49) (kc 1) 1⟩])) ks)) (K.wk zUc)))))))
theorem qM4:zK Tryz.prog Tryz.f75.ntmps (Tryz.f75.body.getD .skip)=some qGa.erase:=by kernel_rfl
@[simp] theorem qNx:zA Tryz.prog 75=true:=by kernel_rfl
def zCu (x:Int)(one two:Typ):Typ:=[jF,jO,jG jF,one,two,jF].getD (yS x 6).toNat jF
theorem zM2 (x:Int)(one two:Typ)(hx:w64 x=x):Ret Tryz.prog 73 [int x,.agg (zB one),.agg (zB two)] [] (.agg (zB (zCu x one two))) []:=by
 obtain⟨k0,k6⟩:=zBB (k:=6) hx (by omega);have ha:=zEb x 6 (by omega);have hk:yS x 6=0∨yS x 6=1∨yS x 6=2∨yS x 6=3∨yS x 6=4∨yS x 6=5:=by omega
 unfold zCu;generalize yS x 6=k at ha k0 k6 hk;refine zI Tryz.func73 rfl qMQ (rs:=[.cell 6 5 true]) (by kernel_rfl) ?_;unfold qGw;simp[zB];refine qM zKi (by simp[zB,jF]) (by simp) ?_;simp[zB];refine qM ha (by simp) (by simp) ?_;rcases hk with rfl | rfl | rfl | rfl | rfl | rfl
 all_goals
  simp[zB,jF,jO,jG];exact zC 0 (by simp[zB,jF,jO,jG,Id.zero,qE])
def qC5 (l:List Int)(at_:Int)(point:Typ):Typ×Int:=if atV l at_ 5=1 then (jO,0) else if atV l at_ 5=2 then (jG jF,1+atV l (at_+1) 2) else if atV l at_ 5=3 then (point,1) else (jF,1+atV l (at_+1) 3)
def zVM (l:List Int)(at_:Int):List (Typ×Int):=if atV l (at_+2) 3=1 then [(jF,1)] else if atV l (at_+2) 3=2 then [(jO,0)] else []
def inV (l:List Int)(at_:Int)(point:Typ):List (Typ×Int):=qC5 l at_ point::zVM l at_
def zP0 (L:List (Typ×Int)):List A:=jI (L.map (·.1))
def zIR (L:List (Typ×Int)):List A:=yB (L.map (·.2))
def inR (L:List (Typ×Int)):A:=.tup [.sl L.length (zP0 L),.sl L.length (zIR L)]
theorem zVN (l:List Int)(at_:Int)(ha:0≤at_)(ha':at_≤1000)(hl:∀x∈l,w64 x=x)(p:Typ×Int) :
 wpK Tryz.prog 0 zUc (fin [RS.slot 6,RS.slot 7] (zFX 0 (inR (p::zVM l at_)) [])) (qP [(0,.sl l.length (yB l)),(1,int at_),(9,.row 0 1),(10,.row 1 1)])
  [.row false 33 5 1 (zB p.1),.row false 3 1 1 [int p.2]]:=by
 have w2:IntKind.i64.wrap (at_+2)=at_+2:=IntWalk.i64_in _ (by omega)
 have h3:=zB7 l (at_+2) 3 (by omega);unfold zVM;generalize atV l (at_+2) 3=z at *
 have tailU:∀L:List (Typ×Int),wpK Tryz.prog 0 zUd (fin [RS.slot 6,RS.slot 7] (zFX 0 (inR L) [])) (qP [(9,.sl L.length (zP0 L)),(10,.sl L.length (zIR L))]) []:=fun L=>by unfold zUd;simp;exact zC 0 (by simp[inR,zP0,zIR])
 unfold zUc;simp[w2];refine zR h3 (by simp) (by simp) ?_;by_cases hz1:z=1
 ·simp[hz1,maxLen];exact⟨_,_,zP [] 1 (by decide) (by simp) (by simp) (by simp[zP0,zIR,qE,zB,jF,Id.zero]),tailU _⟩
 ·by_cases hz2:z=2
  ·simp[hz1,hz2,maxLen];exact⟨_,_,zP [] 1 (by decide) (by simp) (by simp) (by simp[zP0,zIR,qE,zB,jO,Id.zero]),tailU _⟩
  ·simp[hz1,hz2,maxLen];exact⟨_,_,zP [] 1 (by decide) (by simp) (by simp) (by simp[zP0,zIR,qE,zB,jO,Id.zero]),tailU _⟩
theorem qC6 (l:List Int)(at_:Int)(point:Typ)(ha:0≤at_)(ha':at_≤1000)(hl:∀x∈l,w64 x=x) :
 Ret Tryz.prog 75 [.sl l.length (yB l),int at_,.agg (zB point)] [] (inR (inV l at_ point)) []:=by
 have w1:IntKind.i64.wrap (at_+1)=at_+1:=IntWalk.i64_in _ (by omega)
 have h0:=zB7 l at_ 5 (by omega)
 have h1:=zB7 l (at_+1) 3 (by omega);have h2:=zB7 l (at_+1) 2 (by omega);have ht:=zVN l at_ ha ha' hl
 obtain⟨r1,r1'⟩:=yQ (i:=at_+1) hl (most:=3) (by omega);obtain⟨r2,r2'⟩:=yQ (i:=at_+1) hl (most:=2) (by omega);unfold inV qC5;generalize atV l at_ 5=x at *
 generalize atV l (at_+1) 3=y1 at *
 generalize atV l (at_+1) 2=y2 at *
 have v1:IntKind.i64.wrap (1+y1)=1+y1:=IntWalk.i64_in _ (by omega);have v2:IntKind.i64.wrap (1+y2)=1+y2:=IntWalk.i64_in _ (by omega);refine zH Tryz.func75 rfl qM4 (rs:=[.slot 6,.slot 7]) (by kernel_rfl) ?_;unfold qGa;simp[zB];refine zR h0 (by simp) (by simp) ?_;simp[w1];refine zR h1 (by simp) (by simp) ?_;by_cases hx1:x=1
 ·simp[v1,hx1];exact⟨_,_,zP [1,2] 0 (by decide) (by simp) (by simp[zB,jO,Id.zero]) (by simp),ht (jO,0)⟩
 ·by_cases hx2:x=2
  ·simp[v1,hx1,hx2];refine zR zKi (by simp[zB,jF,Id.zero]) (by simp) ?_;simp[zB,w1];refine zR h2 (by simp) (by simp) ?_;simp[v2];exact⟨_,_,zP [1,2] 0 (by decide) (by simp) (by simp[zB,jG,Id.zero]) (by simp),ht (jG jF,1+y2)⟩
  ·by_cases hx3:x=3
   ·simp[v1,hx1,hx2,hx3];exact⟨_,_,zP [1,2] 0 (by decide) (by simp) (by simp[zB]) (by simp),ht (point,1)⟩
   ·simp[v1,hx1,hx2,hx3];exact⟨_,_,zP [1,2] 0 (by decide) (by simp) (by simp[zB,jF,Id.zero]) (by simp),ht (jF,1+y1)⟩
@[simp] theorem qH6:zA Tryz.prog 111=true:=by kernel_rfl
@[simp] theorem qDR:zA Tryz.prog 62=true:=by kernel_rfl
@[simp] theorem qHA:zA Tryz.prog 63=true:=by kernel_rfl
@[simp] theorem qHF:zA Tryz.prog 64=true:=by kernel_rfl
@[simp] theorem qHE:zA Tryz.prog 60=true:=by kernel_rfl
def zZ8:K:=G [kO 1 0,kMb 2 false] (G [D 3 1 3,L 4 3 1,kQi 5 4 2 false,M 6 5,T 6 false (D 7 1 3),T 6 false (L 8 7 1),T 6 false (kQi 9 8 3 false),kPt 10 6 9,M 11 10,T 11 false (D 12 1 3),T 11 false (L 13 12 1),T 11 false (kQi 14 13 4 false),kPt 15 11 14,M 16 15,T 16 false (D 17 1 3),T 16 false (L 18 17 1),T 16 false (kQi 19 18 5 false),kPt 20 16 19,M 2 20] kr)
theorem qHg:zK Tryz.prog Tryz.f25.ntmps (Tryz.f25.body.getD .skip)=some zZ8.erase:=by kernel_rfl
@[simp] theorem qKp:zA Tryz.prog 25=true:=by kernel_rfl
mutual
def zAJ:Exp→List Exp
 | .mk a b c d t ks ns=>.mk a b c d t ks ns::zAK ks
def zAK:List Exp→List Exp
 | []=>[]
 | e::l=>zAJ e++zAK l
end
theorem zJ3 (e:Exp):zAJ e=e::zAK e.kids:=by cases e; simp only[zAJ,Exp.kids]
theorem zNB (e:Exp):∀l:List Exp,zAK (l++[e])=zAK l++zAJ e
 | []=>by simp[zAK]
 | x::l=>by simp[zAK,zNB e l]
mutual
theorem zJ4:∀e:Exp,(zAJ e).length=(tmps e).length
 | .mk a b c d t ks ns=>by have:=zJ5 ks;simp only[zAJ,tmps,List.length_cons,List.length_append,List.length_nil,this]
theorem zJ5:∀l:List Exp,(zAK l).length=(qW l).length
 | []=>rfl
 | e::l=>by have:=zJ4 e;have:=zJ5 l;simp only[zAK,qW,List.length_append, *]
end
theorem zYn (d:Dfn):Ret Tryz.prog 25 [.agg (zO d)] [] (bl (zBO d.kind)) []:=by
 refine zH Tryz.func25 rfl qHg (rs:=[.slot 2]) (by kernel_rfl) ?_;unfold zZ8;by_cases h2:d.kind=2
 ·simp[zO,h2];exact zC 0 (by simp[zBO,h2])
 ·by_cases h3:d.kind=3
  ·simp[zO,h3];exact zC 0 (by simp[zBO,h3])
  ·by_cases h4:d.kind=4
   ·simp[zO,h4];exact zC 0 (by simp[zBO,h4])
   ·simp[zO,h2,h3,h4];exact zC 0 (by simp[zBO,h2,h3,h4])
def zA0 (ds:List Dfn):List Exp:=ds.flatMap fun d=>if zBO d.kind then zAJ d.body else []
theorem zTx (ds:List Dfn)(B:Nat)(h:∀d∈ds,(tmps d.body).length≤B):(zA0 ds).length≤ds.length*B:=by
 induction ds with
 | nil=>simp[zA0]
 | cons d ds ih =>
  have h1:=h d (by simp);have h2:=ih fun d hd=>h d (by simp[hd])
  have e:zA0 (d::ds)=(if zBO d.kind then zAJ d.body else [])++zA0 ds:=by simp[zA0]
  rw[e,List.length_append,List.length_cons,Nat.succ_mul];have h3:(if zBO d.kind=true then zAJ d.body else []).length≤B:=by
   split
   ·rw[zJ4]; exact h1
   ·simp
  omega
end Go.Proofs.YthglhccibdlccaaGreatDoor
