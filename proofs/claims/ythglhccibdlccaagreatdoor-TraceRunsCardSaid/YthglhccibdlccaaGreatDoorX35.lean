/-
  The number of nodes, their numbers, their IDs.
  The maker's plans: what definitions are to be made.
  The reference's nodes, in preorder; the first node with an ID; same nodes and definitions.
-/
import Derived.Test.YthglhccibdlccaaGreatDoorX34
import Derived.Test.YthglhccibdlccaaGreatDoorX26
import Derived.Test.YthglhccibdlccaaGreatDoorX28
set_option linter.unusedVariables false
set_option linter.unusedSimpArgs false
namespace Go.Proofs.YthglhccibdlccaaGreatDoor
open Go.Abs
def zYY:K:=G [kO 1 0,kMi 2 0] (G [kMi 3 1] (Z (G [kMi 4 0] (K.block 0 (K.loop (Z (G [M 5 4,D 6 1 13,L 7 6 1,kN 8 7,kB 9 5 8 .lss] (Y 9 ks (K.exit 0))) (Z (K.block 1 (K.ops [M 12 3,D 13 1 13,L 14 13 1,M 15 4,kX 16 14 15 15,J 17 16 15,kC 18 35 [(kt 17)],kB 19 12 18 .add,M 3 19])) (K.ops [M 10 4,kBi 11 10 1 .add,M 4 11])))))) (G [M 20 3,M 2 20] kr)))
theorem qGC:zL Tryz.prog Tryz.f35.ntmps (Tryz.f35.body.getD .skip)=some zYY.erase:=by kernel_rfl
@[simp] theorem qJN:zA Tryz.prog 35=true:=by kernel_rfl
def zTs:K:=G [kO 2 0,kMn 4] (Z (G [kMi 5 0] (K.block 0 (K.loop (Z (G [M 6 5,D 7 2 13,L 8 7 1,kN 9 8,kB 10 6 9 .lss] (Y 10 ks (K.exit 0))) (Z (K.block 1 (K.ops [D 13 2 13,L 14 13 1,M 15 5,kX 16 14 15 15,J 17 16 15,M 18 1,kC 19 36 [(kt 17),(kt 18)],M 1 19])) (K.ops [M 11 5,kBi 12 11 1 .add,M 5 12])))))) (G [M 20 1,D 21 2 0,D 22 21 2,L 23 22 1,kd 24 3 1 1 [ki] [(0,1,(kt 23))],kP 25 3 1 8 20 24,M 4 25] kr))
theorem zZt:zL Tryz.prog Tryz.f36.ntmps (Tryz.f36.body.getD .skip)=some zTs.erase:=by kernel_rfl
@[simp] theorem qJP:zA Tryz.prog 36=true:=by kernel_rfl
def zZd:K:=G [kO 2 0,kZ 4 kz1] (G [J 7 2 15,kZ 5 kz1,S 5 7 15] (G [M 8 1,D 9 2 0,D 10 9 2,L 11 10 1,kX 12 8 11 3,J 13 12 3,D 14 5 0,S 14 13 3] (Z (G [D 15 2 3,L 16 15 1,kQi 17 16 2 false,M 18 17,T 18 true (D 19 2 5),T 18 true (D 20 19 1),T 18 true (L 21 20 1),T 18 true (kQi 22 21 0 false),kPf 23 18 22] (Y 23 (K.ops [M 24 1,D 25 2 5,D 26 25 2,L 27 26 1,kX 28 24 27 3,J 29 28 3,D 30 5 5,S 30 29 3]) ks)) (G [D 31 5 13,⟨none,.st none (kt 31) (.const kl) 1⟩] (Z (G [kMi 6 0] (K.block 0 (K.loop (Z (G [M 32 6,D 33 2 13,L 34 33 1,kN 35 34,kB 36 32 35 .lss] (Y 36 ks (K.exit 0))) (Z (K.block 1 (K.dops [(0,2,D 39 5 13),(1,2001,L 40 39 1),(2,0,D 41 2 13),(3,0,L 42 41 1),(4,0,M 43 6),(5,0,kX 44 42 43 15),(6,0,J 45 44 15),(7,0,M 46 1),(8,1001,kC 47 37 [(kt 45),(kt 46)]),(9,0,kd 48 37 15 1 kz1 [(0,15,(kt 47))]),(10,0,kP 49 37 15 168 40 48),(11,2,D 50 5 13),(12,0,S 50 49 1)])) (K.ops [M 37 6,kBi 38 37 1 .add,M 6 38])))))) (G [J 51 5 15,S 4 51 15] kr))))))
def qH9:Nat→Option (List (Nat×Nat)):=fun r=>match r with | 9=>some [(0,2),(1,2001),(2,0),(3,0),(4,0),(5,0),(6,0),(7,0),(8,1001),(9,0),(10,0),(11,2),(12,0)] | _=>none
theorem qGG:qC Tryz.prog Tryz.f37.ntmps qH9 (Tryz.f37.body.getD .skip)=some zZd.erase:=by kernel_rfl
@[simp] theorem qJS:zA Tryz.prog 37=true:=by kernel_rfl
@[simp] theorem qJf {d:Option Nat}{x:Operand}{n:Nat}{g:Bool}{env:Env}:zAP 2001 (.ld d x n g) env=zBG 1 (ev env x):=propext (zHM (by omega) (by omega))
@[simp] theorem qCD {d:Option Nat}{x:Operand}{l:List Operand}{env:Env}:zAP 1001 (.call d x l) env=True:=rfl
@[simp] theorem qEg {σ : St}:zDn 2001 σ = σ:=rfl
theorem zBA (e:Exp):tmps e=jX e.kids++[e.id.c]:=by cases e; simp only[tmps,Exp.kids,Exp.id]
theorem zAe {l:List Exp}{i:Nat}(h:i<l.length):jX (l.take (i+1))=jX (l.take i)++tmps l[i]:=by rw[List.take_succ_eq_append_getElem h,zD5]
theorem zKW:∀{l:List Exp} {e:Exp},e∈l→(tmps e).length≤(jX l).length
 | x::l,e,h=>by
  simp only[jX,List.length_append];rcases List.mem_cons.1 h with rfl | h
  ·omega
  ·have:=zKW h; omega
theorem zEc {l:List Exp}(i:Nat):(jX (l.take i)).length≤(jX l).length:=by
 have h:∀a b:List Exp,jX (a++b)=jX a++jX b:=fun a b=>by
  induction a with
  | nil=>simp[jX]
  | cons x a ih=>simp[jX,ih]
 have:=h (l.take i) (l.drop i);rw[List.take_append_drop]at this;rw[this,List.length_append];omega
mutual
theorem zOx:∀(e:Exp),(tmps e).length≤1000000000→Ret Tryz.prog 35 [.agg (zF e)] [] (int (tmps e).length) []
 | .mk a b c d t l ns,hle=>by
  have ih:=zMj l;generalize ha:Exp.mk a b c d t l ns=e at hle;have hal:e.kids=l:=by rw[←ha]; rfl
  rw[←hal]at ih;rw[zBA,List.length_append,List.length_singleton]at hle;refine zK Tryz.func35 rfl qGC (rs:=[.slot 2]) (by kernel_rfl) ?_;unfold zYY;simp[zF];refine qZ (S:=Nat) (fun i=>[(1,.ptr 0 0),(3,int ((jX (e.kids.take i)).length+1:Nat)),(4,int i)]) (fun _=>[.box (zF e)]) (fun i=>i≤e.kids.length) (fun i=>e.kids.length-i) 0 (by simp)
   (zS [0] 0 (by decide) (by simp) (by simp[zF]) (by simp[jX])) ?_
  intro i hi;by_cases h:i<e.kids.length
  ·have hle2:(tmps e.kids[i]).length≤1000000000:=by have:=zKW (List.getElem_mem h); omega
   have h3:=zEc (l:=e.kids) (i+1);rw[zAe h,List.length_append]at h3;simp[zF,h,yJ h];intro hl;refine zR (ih e.kids[i] (List.getElem_mem h) hle2) (by simp[zF]) (by simp) ?_;have hw:IntKind.i64.wrap ((((jX (e.kids.take i)).length:Int)+1)+((tmps e.kids[i]).length:Int))=((jX (e.kids.take i)).length:Int)+1+(tmps e.kids[i]).length:=IntWalk.i64_in _ (by omega);simp[hw];exact zT (i+1) h (by omega) (zS [0] 0 (by decide) (by simp) (by simp[zF]) (by simp[qB h hl,zAe h]; omega))
  ·have hie:i=e.kids.length:=by omega
   subst hie;simp[zF]
   first | exact fun _=>zC 0 (by simp[zBA]) | exact zC 0 (by simp[zBA])
theorem zMj:∀(l:List Exp),∀x∈l,(tmps x).length≤1000000000→Ret Tryz.prog 35 [.agg (zF x)] [] (int (tmps x).length) []
 | [],x,hx=>by simp at hx
 | z::l,x,hx=>by
  rcases List.mem_cons.1 hx with e | hx
  ·rw[e]; exact zOx z
  ·exact zMj l x hx
end
def zCA (l:List Int):AObj:=.row false 3 1 l.length (yF l)
mutual
theorem zMk:∀(e:Exp) (l:List Int),l.length+(tmps e).length≤1000000000→Ret Tryz.prog 36 [.agg (zF e),.row 0 l.length] [zCA l] (.row 0 (l++tmps e).length) [zCA (l++tmps e)]
 | .mk a b c d t ks ns,l,hle=>by
  have ih:=zK4 ks;generalize ha:Exp.mk a b c d t ks ns=e at hle;have hal:e.kids=ks:=by rw[←ha]; rfl
  rw[←hal]at ih;rw[zBA,List.length_append,List.length_singleton]at hle;refine zK Tryz.func36 rfl zZt (rs:=[.slot 4]) (by kernel_rfl) ?_;unfold zTs;simp[zF,zCA];refine qZ (S:=Nat) (fun i=>[(1,.row 0 (l++jX (e.kids.take i)).length),(2,.ptr 1 0),(5,int i)]) (fun i=>[zCA (l++jX (e.kids.take i)),.box (zF e)]) (fun i=>i≤e.kids.length) (fun i=>e.kids.length-i) 0 (by simp)
   (zS [0,1] 0 (by decide) (by simp) (by simp[zF,zCA,jX]) (by simp[jX])) ?_
  intro i hi;by_cases h:i<e.kids.length
  ·have h3:=zEc (l:=e.kids) (i+1);rw[zAe h,List.length_append]at h3;have hg:=ih e.kids[i] (List.getElem_mem h) (l++jX (e.kids.take i)) (by rw[List.length_append]; omega);simp[zF,zCA,h,yJ h];intro hl;refine zN hg [0] (by decide) (by simp[zCA,zCQ]) (by simp[zF]) ?_;simp[zCA];exact zT (i+1) h (by omega) (zS [0,1] 0 (by decide) (by simp) (by simp[zF,zCA,zAe h,zCQ]) (by simp[qB h hl,zAe h]))
  ·have hie:i=e.kids.length:=by omega
   subst hie;simp[zF,zCA];intro _;refine⟨⟨by simp[maxLen]; omega,by omega⟩,?_⟩;exact zG [0] 0 (by decide) (by simp) (by simp[zBA,zCQ]; omega) (by simp[zBA]; omega)
theorem zK4:∀(ks:List Exp),∀x∈ks,∀(l:List Int),l.length+(tmps x).length≤1000000000→Ret Tryz.prog 36 [.agg (zF x),.row 0 l.length] [zCA l] (.row 0 (l++tmps x).length) [zCA (l++tmps x)]
 | [],x,hx=>by simp at hx
 | z::l,x,hx=>by
  rcases List.mem_cons.1 hx with e | hx
  ·rw[e]; exact zMk z
  ·exact zK4 l x hx
end
theorem zQb (e:Exp)(hle:(tmps e).length≤1000000000):Ret Tryz.prog 36 [.agg (zF e),.nil] [] (.row 0 (tmps e).length) [zCA (tmps e)]:=by
 rw[zBA,List.length_append,List.length_singleton]at hle;refine zK Tryz.func36 rfl zZt (rs:=[.slot 4]) (by kernel_rfl) ?_;unfold zTs;simp[zF,zCA];refine qZ (S:=Nat) (fun i=>[(1,.row 0 (jX (e.kids.take i)).length),(2,.ptr 1 0),(5,int i)]) (fun i=>[zCA (jX (e.kids.take i)),.box (zF e)]) (fun i=>i≤e.kids.length) (fun i=>e.kids.length-i) 0 (by simp)
  ((yA (t:=1) (by simp) 3 1).trans (zS [1,0] 0 (by decide) (by simp) (by simp[zF,zCA,jX]) (by simp[jX]))) ?_
 intro i hi;by_cases h:i<e.kids.length
 ·have h3:=zEc (l:=e.kids) (i+1);rw[zAe h,List.length_append]at h3;have hg:=zMk e.kids[i] (jX (e.kids.take i)) (by omega);simp[zF,zCA,h,yJ h];intro hl;refine zN hg [0] (by decide) (by simp[zCA]) (by simp[zF]) ?_;simp[zCA];exact zT (i+1) h (by omega) (zS [0,1] 0 (by decide) (by simp) (by simp[zF,zCA,zAe h,zCQ]) (by simp[qB h hl,zAe h]))
 ·have hie:i=e.kids.length:=by omega
  subst hie;simp[zF,zCA];intro _;refine⟨⟨by simp[maxLen]; omega,by omega⟩,?_⟩;exact zG [0] 0 (by decide) (by simp) (by simp[zBA,zCQ]) (by simp[zBA])
mutual
def zCh (f:Int→Id):Exp→Exp
 | .mk i k n r t ks ns=>.mk (f i.c) k n (if k=2∧r.b=0 then f r.c else r) t (zOE f ks) ns
def zOE (f:Int→Id):List Exp→List Exp
 | []=>[]
 | e::l=>zCh f e::zOE f l
end
theorem zEn (f:Int→Id):∀l:List Exp,zOE f l=l.map (zCh f)
 | []=>rfl
 | e::l=>by simp only[zOE,List.map_cons,zEn f l]
mutual
def Exp.under (N:Nat):Exp→Prop
 | .mk i k _ r _ ks _=>(0≤i.c∧i.c<N)∧(k=2→r.b=0→0≤r.c∧r.c<N)∧ks.length≤1000000000∧zIH N ks
def zIH (N:Nat):List Exp→Prop
 | []=>True
 | e::l=>e.under N∧zIH N l
end
theorem zGU {N:Nat}:∀l:List Exp,zIH N l↔∀e∈l,e.under N
 | []=>by simp[zIH]
 | e::l=>by simp[zIH,zGU l]
def zDZ (ids:List Id)(c:Int):Id:=ids.getD c.toNat Id.zero
theorem zOa {ids:List Id}{c:Int}{j:Nat}(h:c=j)(hj:j<ids.length):zDZ ids c=ids[j]:=by subst h;unfold zDZ;rw[Int.toNat_natCast,List.getD_eq_getElem?_getD,List.getElem?_eq_getElem hj];rfl
def zAa (ids:List Id):AObj:=.row false 29 3 ids.length (qF ids)
mutual
theorem zKH (ids:List Id):∀(e:Exp),e.under ids.length→Ret Tryz.prog 37 [.agg (zF e),.row 0 ids.length] [zAa ids] (.agg (zF (zCh (zDZ ids) e))) [zAa ids]
 | .mk a b c d t ks ns,hb=>by
  have ih:=zJp ids ks;simp only[Exp.under,zGU]at hb;obtain⟨⟨hb1,hb2⟩,hb3,hkl,hb4⟩:=hb;obtain⟨j,hj⟩:∃j:Nat,a.c=j:=⟨a.c.toNat,by omega⟩;have hjl:j<ids.length:=by omega
  have hdj:=yK hjl;have hej:=zOa hj hjl;have hbj:j*3+3≤ids.length*3:=by omega
  refine zH Tryz.func37 rfl qGG (rs:=[.cell 4 15 true]) (by kernel_rfl) ?_;unfold zZd;obtain⟨x,hx⟩:∃x,x=ids[j]:=⟨_,rfl⟩;rw[←hx]at hej hdj;by_cases hv1:b=2
  ·by_cases hv2:d.b=0
   ·obtain⟨hb5,hb6⟩:=hb3 hv1 hv2;obtain⟨m,hm⟩:∃m:Nat,d.c=m:=⟨d.c.toNat,by omega⟩;have hml:m<ids.length:=by omega
    have hdm:=yK hml;have hem:=zOa hm hml;have hbm:m*3+3≤ids.length*3:=by omega
    obtain⟨y,hy⟩:∃y,y=ids[m]:=⟨_,rfl⟩;rw[←hy]at hem hdm;simp[zF,zAa,hj,hjl,hdj,hbj,hv1,hv2,hm,hml,hdm,hbm,qX];refine qZ (S:=Nat) (fun i=>[(1,.row 0 ids.length),(2,.ptr 1 0),(4,.ptr 2 0),(5,.ptr 3 0),(6,int i)])
     (fun i=>[zAa ids,.box (zF (.mk a b c d t ks ns)),.box (zF Exp.zero),.box [int x.a,int x.b,int x.c,int b,int c,int y.a,int y.b,int y.c,int t.k,int t.id.a,int t.id.b,int t.id.c,.sl t.kids.length (jB t.kids),.row 4 i,.sl ns.length (jY ns)],.row false 37 15 i (qL ((ks.map (zCh (zDZ ids))).take i))]) (fun i=>i≤ks.length) (fun i=>ks.length-i) 0 (by simp)
     ((zAf (l:=3) (o:=13) rfl rfl 37 15).trans (zS [0,1,2,3,4] 0 (by decide) (by simp) (by simp[zAa,zF,Exp.zero,Id.zero,Typ.zero,hj,hv1,hv2,hm,hem]) (by simp))) ?_
    intro i hi;by_cases h:i<ks.length
    ·have hg:=ih ks[i] (List.getElem_mem h) (hb4 _ (List.getElem_mem h));have hst:=zAi (l:=ks.map (zCh (zDZ ids))) (i:=i) (by rw[List.length_map]; exact h);rw[List.getElem_map]at hst;simp[zAa,zF,h,yJ h];intro hl;refine yX hg [0] (by decide) (by simp[zAa]) (by simp[zF]) (by decide) (by simp) (by simp) ?_;simp[zAa];refine⟨⟨by omega,by omega⟩,?_⟩;exact zT (i+1) h (by omega) (zS [0,1,2,3,4] 0 (by decide) (by simp) (by rw[hst]; simp[zAa,zF]) (by simp[qB h hl]))
    ·have hie:i=ks.length:=by omega
     subst hie;have hall:List.take ks.length (ks.map (zCh (zDZ ids)))=ks.map (zCh (zDZ ids)):=List.take_of_length_le (by simp);simp[zAa,zF];intro _;exact zG [0] 1 (by decide) (by simp) (by simp) (by simp[zF,zCh,zEn,hej,hall,hv1,hv2,hem])
   ·simp[zF,zAa,hj,hjl,hdj,hbj,hv1,hv2,qX];refine qZ (S:=Nat) (fun i=>[(1,.row 0 ids.length),(2,.ptr 1 0),(4,.ptr 2 0),(5,.ptr 3 0),(6,int i)])
     (fun i=>[zAa ids,.box (zF (.mk a b c d t ks ns)),.box (zF Exp.zero),.box [int x.a,int x.b,int x.c,int b,int c,int d.a,int d.b,int d.c,int t.k,int t.id.a,int t.id.b,int t.id.c,.sl t.kids.length (jB t.kids),.row 4 i,.sl ns.length (jY ns)],.row false 37 15 i (qL ((ks.map (zCh (zDZ ids))).take i))]) (fun i=>i≤ks.length) (fun i=>ks.length-i) 0 (by simp)
     ((zAf (l:=3) (o:=13) rfl rfl 37 15).trans (zS [0,1,2,3,4] 0 (by decide) (by simp) (by simp[zAa,zF,Exp.zero,Id.zero,Typ.zero,hj,hv1,hv2]) (by simp))) ?_
    intro i hi;by_cases h:i<ks.length
    ·have hg:=ih ks[i] (List.getElem_mem h) (hb4 _ (List.getElem_mem h));have hst:=zAi (l:=ks.map (zCh (zDZ ids))) (i:=i) (by rw[List.length_map]; exact h);rw[List.getElem_map]at hst;simp[zAa,zF,h,yJ h];intro hl;refine yX hg [0] (by decide) (by simp[zAa]) (by simp[zF]) (by decide) (by simp) (by simp) ?_;simp[zAa];refine⟨⟨by omega,by omega⟩,?_⟩;exact zT (i+1) h (by omega) (zS [0,1,2,3,4] 0 (by decide) (by simp) (by rw[hst]; simp[zAa,zF]) (by simp[qB h hl]))
    ·have hie:i=ks.length:=by omega
     subst hie;have hall:List.take ks.length (ks.map (zCh (zDZ ids)))=ks.map (zCh (zDZ ids)):=List.take_of_length_le (by simp);simp[zAa,zF];intro _;exact zG [0] 1 (by decide) (by simp) (by simp) (by simp[zF,zCh,zEn,hej,hall,hv1,hv2])
  ·simp[zF,zAa,hj,hjl,hdj,hbj,hv1,qX];refine qZ (S:=Nat) (fun i=>[(1,.row 0 ids.length),(2,.ptr 1 0),(4,.ptr 2 0),(5,.ptr 3 0),(6,int i)])
    (fun i=>[zAa ids,.box (zF (.mk a b c d t ks ns)),.box (zF Exp.zero),.box [int x.a,int x.b,int x.c,int b,int c,int d.a,int d.b,int d.c,int t.k,int t.id.a,int t.id.b,int t.id.c,.sl t.kids.length (jB t.kids),.row 4 i,.sl ns.length (jY ns)],.row false 37 15 i (qL ((ks.map (zCh (zDZ ids))).take i))]) (fun i=>i≤ks.length) (fun i=>ks.length-i) 0 (by simp)
    ((zAf (l:=3) (o:=13) rfl rfl 37 15).trans (zS [0,1,2,3,4] 0 (by decide) (by simp) (by simp[zAa,zF,Exp.zero,Id.zero,Typ.zero,hj,hv1]) (by simp))) ?_
   intro i hi;by_cases h:i<ks.length
   ·have hg:=ih ks[i] (List.getElem_mem h) (hb4 _ (List.getElem_mem h));have hst:=zAi (l:=ks.map (zCh (zDZ ids))) (i:=i) (by rw[List.length_map]; exact h);rw[List.getElem_map]at hst;simp[zAa,zF,h,yJ h];intro hl;refine yX hg [0] (by decide) (by simp[zAa]) (by simp[zF]) (by decide) (by simp) (by simp) ?_;simp[zAa];refine⟨⟨by omega,by omega⟩,?_⟩;exact zT (i+1) h (by omega) (zS [0,1,2,3,4] 0 (by decide) (by simp) (by rw[hst]; simp[zAa,zF]) (by simp[qB h hl]))
   ·have hie:i=ks.length:=by omega
    subst hie;have hall:List.take ks.length (ks.map (zCh (zDZ ids)))=ks.map (zCh (zDZ ids)):=List.take_of_length_le (by simp);simp[zAa,zF];intro _;exact zG [0] 1 (by decide) (by simp) (by simp) (by simp[zF,zCh,zEn,hej,hall,hv1])
theorem zJp (ids:List Id):∀(ks:List Exp),∀x∈ks,x.under ids.length→Ret Tryz.prog 37 [.agg (zF x),.row 0 ids.length] [zAa ids] (.agg (zF (zCh (zDZ ids) x))) [zAa ids]
 | [],x,hx=>by simp at hx
 | z::l,x,hx=>by
  rcases List.mem_cons.1 hx with e | hx
  ·rw[e]; exact zKH ids z
  ·exact zJp ids l x hx
end
def qFG:K:=G [kO 4 1,kO 5 2,kZ 6 kz2] (Z (K.dops [(0,0,kb 7 kz2 []),(1,0,kb 8 kz2 [(0,1,(kc 1))]),(2,0,kb 9 kz2 []),(3,0,kC 10 74 [(kt 9)]),(4,0,J 11 4 5),(5,0,J 12 5 5),(6,0,kb 13 kz2 []),(7,0,kd 14 33 5 6 qOA [(0,5,(kt 7)),(5,5,(kt 8)),(10,5,(kt 10)),(15,5,(kt 11)),(20,5,(kt 12)),(25,5,(kt 13))]),(8,0,M 15 0),(9,0,kC 16 12 [(kt 15),(kc 6)]),(10,0,kX 17 14 16 5),(11,0,J 18 17 5),(12,0,S 6 18 5)]) kr)
theorem qM0:zL Tryz.prog Tryz.f73.ntmps (Tryz.f73.body.getD .skip)=some qFG.erase:=by kernel_rfl
@[simp] theorem qNE:zA Tryz.prog 73=true:=by kernel_rfl
def zTp:K:=(G [M 72 9,M 73 10,M 6 72,M 7 73] kr)
def zTo:K:=(G [M 50 0,M 51 1,kBi 52 51 2 .add,kC 53 31 [(kt 50),(kt 52),(kc 3)],M 11 53] (Z (G [M 54 11,kQi 55 54 1 false] (Y 55 (G [M 56 9,kb 57 kz2 [],kd 58 33 5 1 kz2 [(0,5,(kt 57))],kP 59 33 5 56 56 58,M 9 59] (K.ops [M 60 10,kd 61 3 1 1 [ki] [(0,1,(kc 1))],kP 62 3 1 8 60 61,M 10 62])) ks)) (Z (G [M 63 11,kQi 64 63 2 false] (Y 64 (G [M 65 9,kb 66 kz2 [(0,1,(kc 1))],kd 67 33 5 1 kz2 [(0,5,(kt 66))],kP 68 33 5 56 65 67,M 9 68] (K.ops [M 69 10,kd 70 3 1 1 [ki] [(0,1,(kc 0))],kP 71 3 1 8 69 70,M 10 71])) ks)) (K.wk zTp))))
def qFw:K:=G [kO 5 2,kMn 6,kMn 7] (G [M 12 0,M 13 1,kC 14 31 [(kt 12),(kt 13),(kc 5)],M 8 14] (G [kb 15 kz2 [],⟨none,.brow (some 16) 33 5 1 kz2 [(0,5,(kt 15))]⟩,M 9 16] (G [M 17 0,M 18 1,kBi 19 18 1 .add,kC 20 31 [(kt 17),(kt 19),(kc 3)],⟨none,.bin (some 21) .add (kc 1) (kt 20)⟩,⟨none,.brow (some 22) 3 1 1 [ki] [(0,1,(kt 21))]⟩,M 10 22] (Z (G [M 23 8,kQi 24 23 1 false] (Y 24 (G [M 25 9,kb 26 kz2 [(0,1,(kc 1))],kXi 27 25 5 0,S 27 26 5] (K.ops [M 28 10,kXi 29 28 1 0,⟨none,.st none (kt 29) (kc 0) 1⟩])) ks)) (Z (G [M 30 8,kQi 31 30 2 false] (Y 31 (G [M 32 9,kb 33 kz2 [],kC 34 74 [(kt 33)],kXi 35 32 5 0,S 35 34 5] (K.ops [M 36 10,M 37 0,M 38 1,kBi 39 38 1 .add,kC 40 31 [(kt 37),(kt 39),(kc 2)],⟨none,.bin (some 41) .add (kc 1) (kt 40)⟩,kXi 42 36 1 0,S 42 41 1])) ks)) (Z (G [M 43 8,kQi 44 43 3 false] (Y 44 (G [M 45 9,J 46 5 5,kXi 47 45 5 0,S 47 46 5] (K.ops [M 48 10,kXi 49 48 1 0,⟨none,.st none (kt 49) (kc 1) 1⟩])) ks)) (K.wk zTo)))))))
theorem qMg:zL Tryz.prog Tryz.f75.ntmps (Tryz.f75.body.getD .skip)=some qFw.erase:=by kernel_rfl
@[simp] theorem qNh:zA Tryz.prog 75=true:=by kernel_rfl
def zCv (x:Int)(one two:Typ):Typ:=[jK,jT,jM jK,one,two,jK].getD (zAq x 6).toNat jK
theorem zMu (x:Int)(one two:Typ)(hx:w64 x=x):Ret Tryz.prog 73 [int x,.agg (zB one),.agg (zB two)] [] (.agg (zB (zCv x one two))) []:=by
 obtain⟨k0,k6⟩:=zCl (k:=6) hx (by omega);have ha:=zFR x 6 (by omega);have hk:zAq x 6=0∨zAq x 6=1∨zAq x 6=2∨zAq x 6=3∨zAq x 6=4∨zAq x 6=5:=by omega
 unfold zCv;generalize zAq x 6=k at ha k0 k6 hk;refine zH Tryz.func73 rfl qM0 (rs:=[.cell 6 5 true]) (by kernel_rfl) ?_;unfold qFG;simp[zB];refine qE zKq (by simp[zB,jK]) (by simp) ?_;simp[zB];refine qE ha (by simp) (by simp) ?_;rcases hk with rfl | rfl | rfl | rfl | rfl | rfl
 all_goals
  simp[zB,jK,jT,jM];exact zC 0 (by simp[zB,jK,jT,jM,Id.zero,qN])
def qBO (l:List Int)(at_:Int)(point:Typ):Typ×Int:=if atV l at_ 5=1 then (jT,0) else if atV l at_ 5=2 then (jM jK,1+atV l (at_+1) 2) else if atV l at_ 5=3 then (point,1) else (jK,1+atV l (at_+1) 3)
def zVj (l:List Int)(at_:Int):List (Typ×Int):=if atV l (at_+2) 3=1 then [(jK,1)] else if atV l (at_+2) 3=2 then [(jT,0)] else []
def inV (l:List Int)(at_:Int)(point:Typ):List (Typ×Int):=qBO l at_ point::zVj l at_
def zOZ (L:List (Typ×Int)):List A:=jB (L.map (·.1))
def zJl (L:List (Typ×Int)):List A:=yF (L.map (·.2))
def inR (L:List (Typ×Int)):A:=.tup [.sl L.length (zOZ L),.sl L.length (zJl L)]
theorem zVk (l:List Int)(at_:Int)(ha:0≤at_)(ha':at_≤1000)(hl:∀x∈l,w64 x=x)(p:Typ×Int) :
 wpK Tryz.prog 0 zTo (fin [RS.slot 6,RS.slot 7] (zHa 0 (inR (p::zVj l at_)) [])) (qT [(0,.sl l.length (yF l)),(1,int at_),(9,.row 0 1),(10,.row 1 1)])
  [.row false 33 5 1 (zB p.1),.row false 3 1 1 [int p.2]]:=by
 have w2:IntKind.i64.wrap (at_+2)=at_+2:=IntWalk.i64_in _ (by omega)
 have h3:=zB2 l (at_+2) 3 (by omega);unfold zVj;generalize atV l (at_+2) 3=z at *
 have tailU:∀L:List (Typ×Int),wpK Tryz.prog 0 zTp (fin [RS.slot 6,RS.slot 7] (zHa 0 (inR L) [])) (qT [(9,.sl L.length (zOZ L)),(10,.sl L.length (zJl L))]) []:=fun L=>by unfold zTp;simp;exact zC 0 (by simp[inR,zOZ,zJl])
 unfold zTo;simp[w2];refine zR h3 (by simp) (by simp) ?_;by_cases hz1:z=1
 ·simp[hz1,maxLen];exact⟨_,_,zS [] 1 (by decide) (by simp) (by simp) (by simp[zOZ,zJl,qN,zB,jK,Id.zero]),tailU _⟩
 ·by_cases hz2:z=2
  ·simp[hz1,hz2,maxLen];exact⟨_,_,zS [] 1 (by decide) (by simp) (by simp) (by simp[zOZ,zJl,qN,zB,jT,Id.zero]),tailU _⟩
  ·simp[hz1,hz2,maxLen];exact⟨_,_,zS [] 1 (by decide) (by simp) (by simp) (by simp[zOZ,zJl,qN,zB,jT,Id.zero]),tailU _⟩
theorem qBP (l:List Int)(at_:Int)(point:Typ)(ha:0≤at_)(ha':at_≤1000)(hl:∀x∈l,w64 x=x) :
 Ret Tryz.prog 75 [.sl l.length (yF l),int at_,.agg (zB point)] [] (inR (inV l at_ point)) []:=by
 have w1:IntKind.i64.wrap (at_+1)=at_+1:=IntWalk.i64_in _ (by omega)
 have h0:=zB2 l at_ 5 (by omega)
 have h1:=zB2 l (at_+1) 3 (by omega);have h2:=zB2 l (at_+1) 2 (by omega);have ht:=zVk l at_ ha ha' hl
 obtain⟨r1,r1'⟩:=yS (i:=at_+1) hl (most:=3) (by omega);obtain⟨r2,r2'⟩:=yS (i:=at_+1) hl (most:=2) (by omega);unfold inV qBO;generalize atV l at_ 5=x at *
 generalize atV l (at_+1) 3=y1 at *
 generalize atV l (at_+1) 2=y2 at *
 have v1:IntKind.i64.wrap (1+y1)=1+y1:=IntWalk.i64_in _ (by omega);have v2:IntKind.i64.wrap (1+y2)=1+y2:=IntWalk.i64_in _ (by omega);refine zK Tryz.func75 rfl qMg (rs:=[.slot 6,.slot 7]) (by kernel_rfl) ?_;unfold qFw;simp[zB];refine zR h0 (by simp) (by simp) ?_;simp[w1];refine zR h1 (by simp) (by simp) ?_;by_cases hx1:x=1
 ·simp[v1,hx1];exact⟨_,_,zS [1,2] 0 (by decide) (by simp) (by simp[zB,jT,Id.zero]) (by simp),ht (jT,0)⟩
 ·by_cases hx2:x=2
  ·simp[v1,hx1,hx2];refine zR zKq (by simp[zB,jK,Id.zero]) (by simp) ?_;simp[zB,w1];refine zR h2 (by simp) (by simp) ?_;simp[v2];exact⟨_,_,zS [1,2] 0 (by decide) (by simp) (by simp[zB,jM,Id.zero]) (by simp),ht (jM jK,1+y2)⟩
  ·by_cases hx3:x=3
   ·simp[v1,hx1,hx2,hx3];exact⟨_,_,zS [1,2] 0 (by decide) (by simp) (by simp[zB]) (by simp),ht (point,1)⟩
   ·simp[v1,hx1,hx2,hx3];exact⟨_,_,zS [1,2] 0 (by decide) (by simp) (by simp[zB,jK,Id.zero]) (by simp),ht (jK,1+y1)⟩
@[simp] theorem qGU:zA Tryz.prog 111=true:=by kernel_rfl
@[simp] theorem qDj:zA Tryz.prog 62=true:=by kernel_rfl
@[simp] theorem qGY:zA Tryz.prog 63=true:=by kernel_rfl
@[simp] theorem qHc:zA Tryz.prog 64=true:=by kernel_rfl
@[simp] theorem qHb:zA Tryz.prog 60=true:=by kernel_rfl
def zYS:K:=G [kO 1 0,kMb 2 false] (G [D 3 1 3,L 4 3 1,kQi 5 4 2 false,M 6 5,T 6 false (D 7 1 3),T 6 false (L 8 7 1),T 6 false (kQi 9 8 3 false),kPt 10 6 9,M 11 10,T 11 false (D 12 1 3),T 11 false (L 13 12 1),T 11 false (kQi 14 13 4 false),kPt 15 11 14,M 16 15,T 16 false (D 17 1 3),T 16 false (L 18 17 1),T 16 false (kQi 19 18 5 false),kPt 20 16 19,M 2 20] kr)
theorem qG4:zL Tryz.prog Tryz.f25.ntmps (Tryz.f25.body.getD .skip)=some zYS.erase:=by kernel_rfl
@[simp] theorem qJI:zA Tryz.prog 25=true:=by kernel_rfl
theorem zX8 (d:Dfn):Ret Tryz.prog 25 [.agg (zP d)] [] (bl (zBO d.kind)) []:=by
 refine zK Tryz.func25 rfl qG4 (rs:=[.slot 2]) (by kernel_rfl) ?_;unfold zYS;by_cases h2:d.kind=2
 ·simp[zP,h2];exact zC 0 (by simp[zBO,h2])
 ·by_cases h3:d.kind=3
  ·simp[zP,h3];exact zC 0 (by simp[zBO,h3])
  ·by_cases h4:d.kind=4
   ·simp[zP,h4];exact zC 0 (by simp[zBO,h4])
   ·simp[zP,h2,h3,h4];exact zC 0 (by simp[zBO,h2,h3,h4])
end Go.Proofs.YthglhccibdlccaaGreatDoor
