/-
  Nil slices as rows of their own; rows that are frozen.
  Cells of lists whose elements have so many cells each.
  Contracts of functions whose result may be any of several.
  slices.Grow of a nil slice, as a contract over abstract states.
  The reference's sets of IDs, and the law's lists of IDs.
-/
import Derived.Test.YthglhccibdlccaaGreatDoorX15
import Derived.Test.YthglhccibdlccaaGreatDoorX6
import Derived.Shelf.Spec.SlicesGrow
set_option linter.unusedVariables false
set_option linter.unusedSimpArgs false
namespace Go.Abs
section
variable {P:Program}{H:Mem}{L:List LI} {σ : St}{w:World}
theorem yA {n0 t:Nat}{env:Env} {σ : St}(ht:env t=.nil)(e:TypeId)(sz:Nat):zBz n0 (env.put (some t) (.row σ.length 0)) (σ++[AObj.row false e sz 0 []]) env σ:=by
 intro H0 L0 w0 H L w N tmps h0 h1 h2;have hn:=zC7 h1.st e sz;refine⟨H,_,h1.trans hn,h2.1,fun x=>?_⟩;simp only[Env.put];split
 ·rename_i hx;subst hx;have:=h2.2 x;rw[ht]at this;simp only[Rel]at this;rw[this];simp only[Rel];exact⟨rfl,⟨none,0,0,true⟩,by rw[←h1.st.len]; simp,rfl,Nat.le_refl _,fun _=>rfl⟩
 ·exact Rel.mono (HLe.refl _) hn.lle _ (h2.2 x)
theorem zDR {n0:Nat}{env:Env} {σ : St}{l o n:Nat}{e:TypeId}{sz:Nat}{cs:List A}(hl : σ[l]?=some (.row false e sz n cs))(hc:cs[o]?=some .nil)(e':TypeId)(sz':Nat) :
 zBz n0 env (σ.set l (.row false e sz n (cs.set o (.row σ.length 0)))++[AObj.row false e' sz' 0 []]) env σ:=by
 intro H0 L0 w0 H L w N tmps h0 h1 h2;have hn:=zC7 h1.st e' sz';have hlt:l < σ.length:=(List.getElem?_eq_some_iff.1 hl).1;have hl':(σ++[AObj.row false e' sz' 0 []])[l]?=some (.row false e sz n cs):=by rw[List.getElem?_append_left hlt]; exact hl
 have hs:=zIB (o':=.row false e sz n (cs.set o (.row σ.length 0))) hn.st hl' (fun li hob=>by
  simp only[zW]at hob ⊢;obtain⟨g0,g1,g2,g3⟩:=hob;refine⟨g0,g1,by simpa using g2,?_⟩;rcases g3 with ⟨q1,q2⟩ | ⟨b,cur,q1,q2,q3,q4,q5,q6,q7,q8⟩
  ·subst q2;have:cs=[]:=List.eq_nil_of_length_eq_zero (by simpa using g2);subst this;simp at hc
  ·obtain⟨v,hv,hrel⟩:=q6.get hc;simp only[Rel]at hrel;subst hrel;have hset:cur.toList.take (n*sz)=(cur.toList.take (n*sz)).set o (.slice none 0 0):=by
    apply List.ext_getElem?;intro i;by_cases hi:i=o
    ·subst hi; rw[List.getElem?_set_self (List.getElem?_eq_some_iff.1 hv).1,hv]
    ·rw[List.getElem?_set_ne (Ne.symm hi)]
   refine .inr ⟨b,cur,q1,q2,q3,q4,q5,?_,q7,q8⟩;rw[hset];refine q6.set o ?_;simp only[Rel];exact⟨rfl,⟨none,0,0,true⟩,by rw[←h1.st.len]; simp,rfl,Nat.le_refl _,fun _=>rfl⟩)
 rw[List.set_append_left _ _ hlt]at hs;have hm:=h1.trans hn;exact⟨H,_,⟨hs,hm.step,hm.lle,hm.own⟩,h2.1,fun x=>Rel.mono (HLe.refl _) hn.lle _ (h2.2 x)⟩
theorem zRQ {f:FuncId}{l n:Nat}{e:TypeId}{sz:Nat}{cs:List A}(hσ : σ[l]?=some (.row false e sz n cs)){Q:Out→St→Prop}(h:yN P f [.sl n cs] (σ.set l (.row true e sz n cs)) Q):yN P f [.row l n] σ Q:=by
 intro H L w vs hs hvs;obtain⟨v,vs',rfl,h1,h2⟩:=qA hvs;have:=jI h2;subst this;obtain⟨H',hn,hr⟩:=zXZ hs hσ h1;refine(h H' L w [v] hn.st (qS hr jP)).mono fun e w' hh=>?_
 obtain⟨o,σ',H2,L2,g1,g2,g3⟩:=hh;exact⟨o,σ',H2,L2,g1,hn.trans g2,g3⟩
end
end Go.Abs
namespace Go.Abs
section
variable {α : Type}{enc : α→List A}{k:Nat}
theorem zBQ (hk:∀x,(enc x).length=k):∀(l:List α),(l.flatMap enc).length=l.length*k
 | []=>by simp
 | x::l=>by rw[List.flatMap_cons,List.length_append,hk,zBQ hk l,List.length_cons,Nat.succ_mul,Nat.add_comm]
theorem zCc (hk:∀x,(enc x).length=k):∀{l:List α} {i:Nat} (h:i<l.length),(l.flatMap enc).drop (i*k)=enc l[i]++(l.drop (i+1)).flatMap enc
 | x::l,0,h=>by simp
 | x::l,i+1,h=>by rw[Nat.succ_mul,Nat.add_comm,List.flatMap_cons,←List.drop_drop,List.drop_left' (hk x),zCc hk (by simpa using h)];simp
theorem zCr (hk:∀x,(enc x).length=k){l:List α}{i:Nat}(h:i<l.length):(l.take (i+1)).flatMap enc=(l.take i).flatMap enc++enc l[i]:=by rw[List.take_succ_eq_append_getElem h,List.flatMap_append]; simp
theorem zNN (hk:∀x,(enc x).length=k):∀{l:List α} {i:Nat} (x : α),i<l.length→(l.flatMap enc).take (i*k)++(enc x++(l.flatMap enc).drop (i*k+k))=(l.set i x).flatMap enc
 | y::l,0,x,h=>by simp[List.drop_left' (hk y)]
 | y::l,i+1,x,h=>by have:=zNN hk (l:=l) (i:=i) x (by simpa using h);rw[List.set_cons_succ,List.flatMap_cons,List.flatMap_cons,←this,Nat.succ_mul,Nat.add_comm (i*k) k,List.take_add,List.take_left' (hk y),List.drop_left' (hk y),Nat.add_assoc k,←List.drop_drop,List.drop_left' (hk y),List.append_assoc,Nat.add_comm k (i*k)]
theorem zBi (hp:∀x,jE (enc x)):∀(l:List α),jE (l.flatMap enc)
 | []=>jE.nil
 | x::l=>by
  have h1:=hp x;have h2:=zBi hp l;refine⟨?_,fun rf g=>?_⟩
  ·rw[List.flatMap_cons,zMV,h1.1,h2.1]
  ·rw[List.flatMap_cons,zQ1,h1.2,h2.2]
end
end Go.Abs
namespace Go.Abs
section
variable {P:Program}
theorem zM5 {I:Type}{C:I→Prop}{rr:I→A}{ss:I→St}{hint:Nat→Option (List (Nat×Nat))}{f:FuncId}{fn:Func}{c:Code}{k:K}{rs:List RS}(hf:P.funcs[f]?=some fn)(hb:fn.body=some c)(hc:qC P fn.ntmps hint c=some k.erase)(hr:zBl P fn.results.toList=some rs)
 {args:List A} {σ0:St}(h:wpF P k rs args σ0 fun o τ=>∃i,C i∧zHa σ0.length (rr i) (ss i) o τ):yN P f args σ0 fun o τ=>∃i,C i∧o=.ret (rr i)∧τ = ss i:=by
 intro H L w vs hs ha;refine(zCm hf hb hc hr h H L w vs hs ha).mono fun e w' hh=>?_
 obtain⟨o,σ',H',L',g1,g2,i,hi,r',ks,fuel,rfl,hk,hd,ho,hr⟩:=hh;obtain⟨v,rfl,hv⟩:=g1;obtain⟨H2,L2,k1,_,k3⟩:=zMY ks fuel (by rw[hs.len]; exact hk) hd ho g2;refine⟨.ret (rr i),ss i,H2,L2,⟨v,rfl,?_⟩,k1,i,hi,rfl,rfl⟩;rcases hr with e | e
 ·rw[e]; exact k3 _ _ hv
 ·rw[e]; exact Rel.nrm0 _ (k3 _ _ hv)
theorem zIO {I:Type}{C:I→Prop}{rr:I→A}{ss:I→St}{f:FuncId}{fn:Func}{c:Code}{k:K}{rs:List RS}(hf:P.funcs[f]?=some fn)(hb:fn.body=some c)(hc:zL P fn.ntmps c=some k.erase)(hr:zBl P fn.results.toList=some rs)
 {args:List A} {σ0:St}(h:wpF P k rs args σ0 fun o τ=>∃i,C i∧zHa σ0.length (rr i) (ss i) o τ):yN P f args σ0 fun o τ=>∃i,C i∧o=.ret (rr i)∧τ = ss i:=zM5 (hint:=zAk) hf hb hc hr h
end
end Go.Abs
namespace Go.Abs
open Go.Proofs
section
variable {P:Program}{H:Mem}{L:List LI} {σ : St}{w:World}
theorem zSG (hs:RelSt H L σ w)(ob:AObj)(o:Obj)(li:LI)(hli:li.block=some w.heap.size)(ho:zW H (L++[li]) (w.alloc o) li ob):Nxt H L w H (L++[li]) (σ++[ob]) (w.alloc o):=by
 have hll:=LLe.append L [li];refine⟨⟨fun b o v hv=>?_,by simp[hs.len],fun i l o hL hσ=>?_,fun i j l l' b hi hj hb hb'=>?_,fun i l b hL hb=>?_⟩,
  ⟨rfl,rfl,rfl,by simp,fun k hk _=>heap_alloc_old w _ (h:=hk),HLe.refl _,fun b o v hv=>.inl hv,Nat.le_refl _,zDH (fun k hk=>heap_alloc_old w _ (h:=hk))⟩,hll,fun b ⟨i,l,hL,hb⟩=>?_⟩
 ·rw[World.cell?_alloc_lt _ _ _ (hs.h_lt hv)];exact hs.pers b o v hv
 ·rcases jH hL with hL' | ⟨rfl,rfl⟩
  ·have hi:i<L.length:=(List.getElem?_eq_some_iff.1 hL').1;rw[List.getElem?_append_left (by rw[←hs.len]; exact hi)]at hσ;exact(hs.obj i l o hL' hσ).carry (fun b hb=>heap_alloc_old w _ (h:=hs.lt i l b hL' hb)) (HLe.refl _) hll (fun _ _ _=>rfl)
  ·rw[hs.len]at hσ;rw[List.getElem?_append_right (Nat.le_refl _)]at hσ;simp only[Nat.sub_self,List.getElem?_cons_zero,Option.some.injEq]at hσ;subst hσ;exact ho
 ·rcases jH hi with hi' | ⟨rfl,rfl⟩
  ·rcases jH hj with hj' | ⟨rfl,rfl⟩
   ·exact hs.inj i j l l' b hi' hj' hb hb'
   ·rw[hli]at hb'; cases hb'; have:=hs.lt i l _ hi' hb; omega
  ·rw[hli]at hb;cases hb;rcases jH hj with hj' | ⟨rfl,rfl⟩
   ·have:=hs.lt j l' _ hj' hb'; omega
   ·rfl
 ·rcases jH hL with hL' | ⟨rfl,rfl⟩
  ·have:=hs.lt i l b hL' hb; simp; omega
  ·rw[hli]at hb; cases hb; simp
 ·rcases jH hL with hL' | ⟨rfl,rfl⟩
  ·exact .inl ⟨i,l,hL',hb⟩
  ·rw[hli]at hb; cases hb; exact .inr (Nat.le_refl _)
theorem zVf {ρ : Go.Shelf.Ren}(LL:Lays8.n4 P ρ){i:TypeInfo}{z:Value}(hi:P.info? (ρ.t 25)=some i)(hz:i.zero=some z)(hzs:z.cells.size=i.size)(h0:0<i.size){n:Nat}(hb:n*i.bytes≤140737488355328)(hn63:n≤4611686018427387904) :
 Ret P (ρ.f 4) [.nil,.lit (.int .i64 n)] [] (.row 0 0) [.row false (ρ.t 25) i.size 0 []]:=by
 intro H L w vs hs hvs;obtain⟨v,vs',rfl,h1,h2⟩:=qA hvs;obtain⟨u,vs'',rfl,h3,h4⟩:=qA h2;have:=jI h4;subst this;simp only[Rel]at h1 h3;subst h1 h3;have hL:L=[]:=List.eq_nil_of_length_eq_zero (by rw[hs.len]; rfl);subst hL;have hn:n≤maxLen:=by simp only[maxLen]; omega
 by_cases hz0:n=0
 ·subst hz0;refine(Any8.slices_Grow_room LL none 0 0 0 w (Nat.le_refl _) (by omega) (by omega) (by omega)).mono fun e w' hh=>?_
  obtain⟨rfl,rfl⟩:=hh;have hnx:=zC7 hs (ρ.t 25) i.size;refine⟨.ret (.row 0 0),_,H,_,⟨_,rfl,?_⟩,hnx,rfl,rfl⟩;simp only[Rel];exact⟨rfl,⟨none,0,0,true⟩,by simp,rfl,Nat.le_refl _,fun _=>rfl⟩
 ·refine(Any8.slices_Grow_grow LL i z hi hz h0 none 0 0 n [] w (Nat.le_refl _) (by omega) (by rw[Nat.zero_add]; exact hb) (by omega) (by simp) (fun _=>rfl) (fun a ha=>by cases ha)).mono fun e w' hh=>?_
  obtain⟨rfl,rfl⟩:=hh;have hge:=grownCap_ge w (0+n) 0 (ρ.t 25);have hcm:grownCap w (0+n) 0 (ρ.t 25)≤maxLen:=grownCap_le_maxLen w (0+n) 0 (ρ.t 25) (by omega);generalize grownCap w (0+n) 0 (ρ.t 25)=cap at hge hcm ⊢;have hd:=zOz hs;have hnx:=zSG hd.st (.row false (ρ.t 25) i.size 0 []) (.cells ((([]:List Value).toArray++Builtin.zeroCells z.cells (0+n-0)++Builtin.zeroCells z.cells (cap-(0+n)))) (ρ.t 25)) ⟨some w.heap.size,cap,0,true⟩ rfl (by
   simp only[zW];refine⟨trivial,trivial,by simp,.inr ⟨w.heap.size,_,rfl,heap_alloc_new w.drew _,Nat.zero_le _,hcm,?_,?_,?_,fun o=>?_⟩⟩
   ·simp only[Array.size_append,size_zeroCells,hzs];simp only[List.size_toArray,List.length_nil,Nat.zero_add,Nat.sub_zero,←Nat.add_mul]
    congr 1
    omega
   ·simp[zX]
   ·simp
   ·cases hH:H w.heap.size o with
    | none=>rfl
    | some v=>have:=hs.h_lt hH; omega)
  have hnx:=hd.trans hnx;refine⟨.ret (.row 0 0),_,H,_,⟨_,rfl,?_⟩,hnx,rfl,rfl⟩;simp only[Rel];exact⟨rfl,⟨some w.heap.size,cap,0,true⟩,by simp,rfl,Nat.le_refl _,fun _=>rfl⟩
theorem zLV {ρ : Go.Shelf.Ren}(LL:Lays8.n4 P ρ){sz bs:Nat}{z:Value}(hi:(P.info? (ρ.t 25)).map (fun i=>(i.size,i.bytes,i.zero))=some (sz,bs,some z))(hzs:z.cells.size=sz)(h0:0<sz){n:Nat}(hb:n*bs≤140737488355328)(hn63:n≤4611686018427387904) :
 Ret P (ρ.f 4) [.nil,.lit (.int .i64 n)] [] (.row 0 0) [.row false (ρ.t 25) sz 0 []]:=by
 rw[Option.map_eq_some_iff]at hi;obtain⟨i,h1,h2⟩:=hi;simp only[Prod.mk.injEq]at h2;obtain⟨rfl,rfl,h3⟩:=h2;exact zVf LL h1 h3 hzs h0 hb hn63
end
end Go.Abs
namespace Go.Proofs.YthglhccibdlccaaGreatDoor
open Go.Abs
def w64 (n:Int):Int:=IntKind.i64.wrap n
def zCf (a b c a' b' c':Int):Bool:=decide (Id.mk a b c=Id.mk a' b' c')
@[simp] theorem zAX {x y:Id}:zCf x.a x.b x.c y.a y.b y.c=decide (x=y):=rfl
def Id.zero:Id:=⟨0,0,0⟩
@[simp] theorem qC1 {x:Id}:zCf x.a x.b x.c 0 0 0=decide (x=Id.zero):=rfl
@[simp] theorem Id.zero_a:Id.zero.a=0:=rfl
@[simp] theorem Id.zero_b:Id.zero.b=0:=rfl
@[simp] theorem Id.zero_c:Id.zero.c=0:=rfl
@[simp] theorem qIU:zCf 0 0 0 0 0 0=true:=rfl
@[simp] theorem zXw {a b c a' b' c':Int}:zME [.i,.i,.i] false (.agg [.lit (.int .i64 a),.lit (.int .i64 b),.lit (.int .i64 c)]) (.agg [.lit (.int .i64 a'),.lit (.int .i64 b'),.lit (.int .i64 c')]) =
 some (.lit (.bool (zCf a b c a' b' c'))):=by simp[zME,yT,zB6,zAJ,zCf]
@[simp] theorem qH3 {a b c a' b' c':Int}:zME [.i,.i,.i] true (.agg [.lit (.int .i64 a),.lit (.int .i64 b),.lit (.int .i64 c)]) (.agg [.lit (.int .i64 a'),.lit (.int .i64 b'),.lit (.int .i64 c')]) =
 some (.lit (.bool (!zCf a b c a' b' c'))):=by simp[zME,yT,zB6,zAJ,zCf]
def K12:K:=G [kMi 4 0] (Z (G [M 5 0,kBi 6 5 0 .lss] (Y 6 (K.ops [M 7 0,kBi 8 7 1 .add,⟨none,.neg (some 9) (kt 8)⟩,M 0 9]) ks)) (G [M 10 0,M 11 1,kB 12 10 11 .rem,M 4 12] kr))
theorem c12:zL Tryz.prog Tryz.f12.ntmps (Tryz.f12.body.getD .skip)=some K12.erase:=by kernel_rfl
@[simp] theorem qPp:zA Tryz.prog 12=true:=by kernel_rfl
def K5:K:=G [kO 2 0,kO 3 1,kMb 4 false] (G [D 5 2 0,L 6 5 1,D 7 3 0,L 8 7 1,kC 9 20 [(kt 6),(kt 8)],M 10 9,T 10 true (D 11 2 1),T 10 true (L 12 11 1),T 10 true (D 13 3 1),T 10 true (L 14 13 1),T 10 true (kC 15 20 [(kt 12),(kt 14)]),kPf 16 10 15,M 4 16] kr)
theorem c5:zL Tryz.prog Tryz.f16.ntmps (Tryz.f16.body.getD .skip)=some K5.erase:=by kernel_rfl
@[simp] theorem qP4:zA Tryz.prog 16=true:=by kernel_rfl
def K6:K:=G [kO 1 0,kZ 2 [kl,kl]] (G [D 3 1 0,L 4 3 1,D 5 1 1,L 6 5 1,kb 7 [kl,kl] [(0,1,(kt 4)),(1,1,(kt 6))],S 2 7 2] kr)
theorem c6:zL Tryz.prog Tryz.f17.ntmps (Tryz.f17.body.getD .skip)=some K6.erase:=by kernel_rfl
@[simp] theorem qP5:zA Tryz.prog 17=true:=by kernel_rfl
def K30:K:=G [kO 3 1,kMn 4] (G [kMi 5 0] (Z (K.block 0 (K.loop (Z (Z (K.dops [(0,0,M 7 5),(1,0,M 8 0),(2,0,kN 9 8),(3,0,kB 10 7 9 .lss),(4,0,M 11 10),(5,0,T 11 true (M 12 0)),(6,0,T 11 true (M 13 5)),(7,0,T 11 true (kX 14 12 13 3)),(8,0,T 11 true (J 15 14 3)),(9,0,T 11 true (J 16 3 3)),(10,0,T 11 true (kC 17 110 [(kt 15),(kt 16)])),(11,0,kPf 18 11 17)]) (Y 18 ks (K.exit 0))) (K.block 1 (K.ops [M 19 5,kBi 20 19 1 .add,M 5 20]))))) (Z (Z (K.dops [(0,0,M 21 5),(1,0,M 22 0),(2,0,kN 23 22),(3,0,kB 24 21 23 .lss),(4,0,M 25 24),(5,0,T 25 true (M 26 0)),(6,0,T 25 true (M 27 5)),(7,0,T 25 true (kX 28 26 27 3)),(8,0,T 25 true (J 29 28 3)),(9,0,T 25 true (J 30 3 3)),(10,0,⟨some (25,true),.eqs (some 31) false [.i,.i,.i] (kt 29) (kt 30)⟩),(11,0,kPf 32 25 31)]) (Y 32 (G [M 33 0,M 4 33] kr) ks)) (G [kd 34 29 3 0 [] [],M 35 0,M 36 5,⟨none,.slc (some 37) (kt 35) 3 none (some (kt 36)) none⟩,kP 38 29 3 24 34 37,M 6 38] (G [M 39 6,J 40 3 3,kd 41 29 3 1 [ki,ki,ki] [(0,3,(kt 40))],kP 42 29 3 24 39 41,M 6 42] (G [M 43 6,M 44 0,M 45 5,⟨none,.slc (some 46) (kt 44) 3 (some (kt 45)) none none⟩,kP 47 29 3 24 43 46,M 4 47] kr))))))
theorem c30:zL Tryz.prog Tryz.f61.ntmps (Tryz.f61.body.getD .skip)=some K30.erase:=by kernel_rfl
@[simp] theorem qPt:zA Tryz.prog 61=true:=by kernel_rfl
def zAq (n k:Int):Int:=(if n<0 then w64 (0-w64 (n+1)) else n).tmod k
theorem zFR (n k:Int)(hk:0<k):Ret Tryz.prog 12 [int n,int k] [] (int (zAq n k)) []:=by
 refine zK Tryz.func12 rfl c12 (rs:=[.slot 4]) (by kernel_rfl) ?_;unfold K12;have h0:¬k=0:=by omega
 by_cases h:n<0
 ·simp[h,h0];exact zC 0 (by simp[zAq,h,w64])
 ·simp[h,h0];exact zC 0 (by simp[zAq,h])
theorem zCl {n k:Int}(hn:w64 n=n)(hk:0<k):0≤zAq n k∧zAq n k<k:=by
 unfold zAq;have h:0≤(if n<0 then w64 (0-w64 (n+1)) else n):=by simp only[w64,IntKind.wrap_i64]at hn ⊢;split<;>omega
 exact⟨Int.tmod_nonneg _ h,Int.tmod_lt_of_pos _ hk⟩
def zFi:List Id→Id→List Id
 | [],x=>[x]
 | y::l,x=>if zBR y x=true then y::zFi l x else if y=x then y::l else x::y::l
structure Trc where
 defs:List Id
 nodes:List Id
 deriving DecidableEq
def zAy (t:Trc):List A:=[.sl t.defs.length (qF t.defs),.sl t.nodes.length (qF t.nodes)]
theorem zHC (t:Trc):Ret Tryz.prog 17 [.agg (zAy t)] [] (.agg (zAy t)) []:=by refine zK Tryz.func17 rfl c6 (rs:=[.cell 2 2 true]) (by kernel_rfl) ?_;unfold K6;simp[zAy];exact zC 0 (by simp)
theorem zRx (a b:Trc):Ret Tryz.prog 16 [.agg (zAy a),.agg (zAy b)] [] (bl (decide (a=b))) []:=by
 refine zK Tryz.func16 rfl c5 (rs:=[.slot 4]) (by kernel_rfl) ?_;unfold K5;have hab:a=b↔a.defs=b.defs∧a.nodes=b.nodes:=by cases a; cases b; simp
 simp[zAy];refine zR (zKM a.defs b.defs) (by simp) (by simp) ?_;by_cases h:a.defs=b.defs
 ·simp[h];refine zR (zKM a.nodes b.nodes) (by simp) (by simp) ?_;simp;exact zC 0 (by simp[hab,h])
 ·simp[h];exact zC 0 (by simp[hab,h])
end Go.Proofs.YthglhccibdlccaaGreatDoor
