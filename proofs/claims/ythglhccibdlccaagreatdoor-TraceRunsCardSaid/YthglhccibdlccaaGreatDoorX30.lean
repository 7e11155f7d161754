/-
  The maker's literals of variants and records; all literals.
  fits and Valid of the reference.
  The maker's operations.
  Size and depth in plain numbers; Valid of the reference.
-/
import Derived.Test.YthglhccibdlccaaGreatDoorX29
import Derived.Test.YthglhccibdlccaaGreatDoorX28
set_option linter.unusedVariables false
set_option linter.unusedSimpArgs false
namespace Go.Proofs.YthglhccibdlccaaGreatDoor
open Go.Abs
theorem zKC {σ τ : St}(hk:zB1 σ τ){j:Nat}{o:AObj}(h : σ[j]?=some o)(hn:o≠AObj.rsv):jO τ [j] [o] = τ:=by
 have h1:=hk j o h hn;have hlt:j < τ.length:=by
  by_cases hl:j < τ.length
  ·exact hl
  ·rw[List.getElem?_eq_none (by omega)]at h1; cases h1
 rw[List.getElem?_eq_getElem hlt]at h1;simp only[jO];injection h1 with h1
 rw[←h1,List.append_nil];exact List.set_getElem_self hlt
theorem zA5.mono {hs:List Hd}{own:Int}{f:FuncId}{m:Mk}{args:List A}{env:List Bnd}{t:Typ}{c c':Int}(h:zA5 hs own f m args env t c)(hc:c≤c'):zA5 hs own f m args env t c':=by obtain⟨e,m',h1,h2,h3,h4,h5⟩:=h;exact⟨e,m',h1,h2.mono hc,h3,h4,h5⟩
theorem zVp {hs:List Hd}{R:Nat}{c depth:Int}{Q:Nat→Prop}{len:Nat}(hk:zBd hs R c depth Q len)(hc:0≤c)(envs:Nat→List Bnd)(t:Typ){r:Nat}(hr:TyOk hs r t)(hQ:Q r)
 (m:Mk)(hx:Cx hs R m)(he:∀j,EnvOk hs R m.temp (envs j))(h1:∀j,0<(envs j).length)(h2:∀j,(envs j).length≤len):∀(k:Nat),Lim m (k*(c+1)) →
  ∃(es:List Exp) (ns:List ByteArray) (ms:Nat→Mk),es.length=k∧ns.length=k∧ms 0=m∧(∀j≤k,Adv m (ms j) (j*(c+1)))∧Seg m.temp (ms k).temp (jX es) ∧
   ∀(j:Nat) (hj:j<es.length) (hj':j<ns.length),∃mm:Mk,Ret Tryz.prog yU [.ptr 0 0,.agg (zB t),.sl (envs j).length (zQ (envs j)),int depth] (mkS (ms j)) (.agg (zF es[j])) (mkS mm) ∧
    Ret Tryz.prog 81 [.ptr 0 0] (mkS mm) (.lit (.string ns[j])) (mkS (ms (j+1)))∧WT hs m.own (envs j) es[j] t∧es[j].num0:=by
 intro k;induction k with
 | zero =>
  intro hl;refine⟨[],[],fun _=>m,rfl,rfl,rfl,fun j hj=>?_,Seg.nil,fun j hj=>by simp at hj⟩;have:j=0:=by simpa using hj
  subst this;exact(Adv.zero m).mono (by simp)
 | succ k ih =>
  intro hl;have e1:(((k+1:Nat):Int))*(c+1)=k*(c+1)+(c+1):=by rw[Int.natCast_add,Int.add_mul]; simp
  rw[e1]at hl;obtain⟨es,ns,ms,q0,q1,q2,q3,q4,q5⟩:=ih (hl.mono (by omega));have a1:=q3 k (Nat.le_refl _);have hl1:=Lim.adv (c:=k*(c+1)) (c':=c+1) hl a1;obtain⟨e,mm,g1,g2,g3,g4,g5⟩:=hk (ms k) r t (envs k) (hx.adv a1) (hl1.mono (by omega)) hr hQ ((he k).mono a1.temp1) (h1 k) (h2 k);have hl2:=Lim.adv (c:=c) (c':=1) hl1 g2;obtain⟨s,hs⟩:=zJ8 mm hl2.name1 (by have:=hl2.name2; omega);have a2:=g2.trans (zHc mm);refine⟨es++[e],ns++[s],fun j=>if j≤k then ms j else {mm with name:=mm.name+1},by simp[q0],by simp[q1],by simp[q2],fun j hj=>?_,?_,fun j hj hj'=>?_⟩
  ·by_cases hle:j≤k
   ·simp only[hle,if_true]; exact q3 j hle
   ·have:j=k+1:=by omega
    subst this;simp only[show ¬(k+1≤k) by omega,if_false];rw[e1];exact a1.trans a2
  ·rw[zD5];simp only[show ¬(k+1≤k) by omega,if_false];exact q4.append g4 a1.temp1 g2.temp1
  ·simp only[List.length_append,List.length_singleton,q0]at hj;by_cases hlt:j<k
   ·have hjes:j<es.length:=by omega
    have hjns:j<ns.length:=by omega
    rw[List.getElem_append_left hjes,List.getElem_append_left hjns];simp only[show j≤k by omega,if_true,show j+1≤k by omega];exact q5 j hjes hjns
   ·have:j=k:=by omega
    subst this;rw[List.getElem_append_right (by omega),List.getElem_append_right (by omega)];simp only[Nat.le_refl,if_true,show ¬(j+1≤j) by omega,if_false,Nat.sub_self,q0,q1,List.getElem_cons_zero];rw[a1.own]at g3;exact⟨mm,g1,hs,g3,g5⟩
theorem zVv {hs:List Hd}{R:Nat}{m:Mk}{env:List Bnd}{c depth:Int}{Q:Nat→Prop}{len:Nat}(hc:0≤c)(hl:Lim m (c+1))(x:Int)(hx0:0≤x)(hx1:x≤65536)(k:Nat)(h:k<hs.length)(h1:∀(j:Nat)(hj:j<k),hs[j].id≠hs[k].id)
 (h2:hs[k].kind=1)(h3:0<hs[k].slots.length)(h3':hs[k].slots.length≤6){r:Nat}(h4:∀s∈hs[k].slots,TyOk hs r s.typ)(hQ:Q r)
 (hk:zBd hs R c (depth-1) Q len)(hx:Cx hs R m)(he:EnvOk hs R m.temp env)(h5:0<env.length)(h6:env.length≤len)(hd1 : -1000≤depth)(hd2:depth≤1000) :
 zA5 hs m.own zMR m [.ptr 0 0,.agg (zB (zBm hs[k].id)),.sl env.length (zQ env),int x,int depth] env (zBm hs[k].id) (c+1):=by
 obtain⟨hm,hdv,hhd⟩:=zZF hx h h1;generalize hD:m.defs[k]=D at hdv hhd;have eid:D.id=hs[k].id:=by rw[←hhd]; rfl
 have eslots:D.slots=hs[k].slots:=by rw[←hhd]; rfl
 have ekind:D.kind=1:=by rw[←h2,←hhd]; rfl
 have hdl:=hx.dlen;have hd100:=hx.len;have wd:IntKind.i64.wrap (depth-1)=depth-1:=IntWalk.i64_in _ (by omega);obtain⟨j,hj,hj1⟩:∃j:Nat,j<D.slots.length∧(j:Int)=if depth<0 then 0 else x.tmod D.slots.length:=by
  rw[eslots];by_cases hd:depth<0
  ·exact⟨0,h3,by rw[if_pos hd]; rfl⟩
  ·refine⟨(x % hs[k].slots.length).toNat,?_,?_⟩
   ·have:=Int.emod_lt_of_pos x (b:=(hs[k].slots.length:Int)) (by omega);have:=Int.emod_nonneg x (b:=(hs[k].slots.length:Int)) (by omega);omega
   ·rw[if_neg hd,tmN hx0];have:=Int.emod_nonneg x (b:=(hs[k].slots.length:Int)) (by omega);omega
 have hjs:j<hs[k].slots.length:=by rw[←eslots]; exact hj
 have hty:D.slots[j].typ=hs[k].slots[j].typ:=by simp only[eslots]
 obtain⟨e,m',g1,g2,g3,g4,g5⟩:=hk m r D.slots[j].typ env hx (hl.mono (by omega)) (by rw[hty]; exact h4 _ (List.getElem_mem hjs)) hQ he h5 h6;have hln:=Lim.adv (c:=c) (c':=1) hl g2;obtain⟨l1,l2,l3,l4,l5,l6,l7,l8⟩:=hln;refine⟨.mk ⟨0,0,m'.temp⟩ 9 j hs[k].id Typ.zero [e] [],{m' with temp:=m'.temp+1,left:=m'.left-1},?_,g2.trans (yR _),.case _ _ k h j hjs e h2 (hty▸g3),by simp only[tmps,jX,List.append_nil]; exact g4.append (Seg.one _) g2.temp1 (by omega),zCt (by simpa using g5)⟩;refine zH Tryz.func79 rfl zRL (rs:=[.cell 10 15 true]) (by kernel_rfl) ?_;unfold zPi;simp[mkS,mkB,zB];refine⟨_,_,zAc 1,?_⟩;simp[mkS,mkB,zB,List.replicate];refine zQS (zO8 m.mods m.defs hs[k].id (by omega)) [1] (by decide) (by simp[zL1]) (by simp[zL1]) (by simp[qX]) (fun τ hτ=>by
  have:=zKC hτ (j:=1) (o:=.row false 39 31 m.defs.length (zZ m.defs)) (by simp) (by simp)
  simpa [zL1] using this) ?_
 rw[hdv];have hnil:D.slots≠[]:=fun e=>by rw[e]at hj; simp at hj
 have hdS:List.drop (j*11+4) (jU D.slots)=(zAd D.slots[j]++jU (D.slots.drop (j+1))).drop 4:=by rw[←List.drop_drop,jL hj]
 have hbS:j*11+4+5≤D.slots.length*11:=by omega
 by_cases hd:depth<0
 ·have hj0:j=0:=by rw[if_pos hd]at hj1; omega
  subst hj0;simp only[Nat.zero_mul,Nat.zero_add]at hdS hbS;simp[mkS,mkB,zP,ekind,hnil,hd,hj,hdS,hbS,zAd,wd];intro _;refine zN g1 [0,1] (by decide) (by simp[mkS,mkB]) (by simp[zB]) ?_;simp[mkS,mkB];refine zN (yH m' 9 0 [e] l3 (by omega) (by omega) l6) [0,1] (by decide) (by simp[mkS,mkB]) (by simp[zJ]) ?_;simp[mkS,mkB,zF];exact zG [0,1] 0 (by decide) (by simp) (by simp) (by simp[zF,zJ,eid])
 ·rw[if_neg hd]at hj1;simp[mkS,mkB,zP,ekind,hnil,hd,←hj1,hj,hdS,hbS,zAd,wd];intro _;refine zN g1 [0,1] (by decide) (by simp[mkS,mkB]) (by simp[zB]) ?_;simp[mkS,mkB];refine zN (yH m' 9 j [e] l3 (by omega) (by omega) l6) [0,1] (by decide) (by simp[mkS,mkB]) (by simp[zJ]) ?_;simp[mkS,mkB,zF];exact zG [0,1] 0 (by decide) (by simp) (by simp) (by simp[zF,zJ,eid])
set_option maxHeartbeats 2000000 in
theorem zXM {hs:List Hd}{R:Nat}{m:Mk}{env:List Bnd}{c depth:Int}{Q:Nat→Prop}{len:Nat}(hc:0≤c)(hl:Lim m (6*c+1))(x:Int)(k:Nat)(h:k<hs.length)(h1:∀(j:Nat)(hj:j<k),hs[j].id≠hs[k].id)
 (h2:hs[k].kind=0)(h3':hs[k].slots.length≤6){r:Nat}(h4:∀s∈hs[k].slots,TyOk hs r s.typ)(hQ:Q r)
 (hk:zBd hs R c (depth-1) Q len)(hx:Cx hs R m)(he:EnvOk hs R m.temp env)(h5:0<env.length)(h6:env.length≤len)(hd1 : -1000≤depth)(hd2:depth≤1000) :
 zA5 hs m.own zMR m [.ptr 0 0,.agg (zB (zBm hs[k].id)),.sl env.length (zQ env),int x,int depth] env (zBm hs[k].id) (6*c+1):=by
 obtain⟨hm,hdv,hhd⟩:=zZF hx h h1;generalize hD:m.defs[k]=D at hdv hhd;have eid:D.id=hs[k].id:=by rw[←hhd]; rfl
 have eslots:D.slots=hs[k].slots:=by rw[←hhd]; rfl
 have ekind:D.kind=0:=by rw[←h2,←hhd]; rfl
 have hdl:=hx.dlen;have hd100:=hx.len;have wd:IntKind.i64.wrap (depth-1)=depth-1:=IntWalk.i64_in _ (by omega);have hS6:D.slots.length≤6:=by rw[eslots]; exact h3'
 have hsc:((D.slots.length:Int))*c≤6*c:=Int.mul_le_mul_of_nonneg_right (by omega) hc;obtain⟨es,ms,q1,q2,q3,q4,q5⟩:=zRg hk hc env h5 h6 (D.slots.map (·.typ)) m hx (hl.mono (by rw[List.length_map]; omega)) (fun t ht=>by obtain⟨s,hs',rfl⟩:=List.mem_map.1 ht;exact⟨r,h4 s (eslots▸hs'),hQ⟩) he
 rw[List.length_map]at q1 q3 q4;have ha:=(q3 D.slots.length (Nat.le_refl _)).mono hsc;obtain⟨l1,l2,l3,l4,l5,l6,l7,l8⟩:=Lim.adv (c:=6*c) (c':=1) hl ha;refine⟨.mk ⟨0,0,(ms es.length).temp⟩ 7 0 hs[k].id Typ.zero es [],{ms es.length with temp:=(ms es.length).temp+1,left:=(ms es.length).left-1},?_,q1▸ha.trans (yR _),.record _ _ k h es h2 (by rw[←eslots,q1]) fun j hj=>?_,
  by simp only[tmps]; rw[q1]; exact q4.append (Seg.one _) ha.temp1 (by omega),zCt (zH9 rfl fun j hj=>(q5 j hj (by rw[List.length_map]; omega)).2.2)⟩
 ·rw[←eid]at hdv ⊢;refine zH Tryz.func79 rfl zRL (rs:=[.cell 10 15 true]) (by kernel_rfl) ?_;unfold zPi;simp[mkS,mkB,zB];refine⟨_,_,zAc 1,?_⟩;simp[mkS,mkB,zB,List.replicate];refine zQS (zO8 m.mods m.defs D.id (by omega)) [1] (by decide) (by simp[zL1]) (by simp[zL1]) (by simp[qX]) (fun τ hτ=>by
   have:=zKC hτ (j:=1) (o:=.row false 39 31 m.defs.length (zZ m.defs)) (by simp) (by simp)
   simpa [zL1] using this) ?_
  rw[hdv];simp[mkS,mkB,zP,ekind];refine qZ (S:=Nat) (fun i=>[(0,.ptr 0 0),(2,.sl env.length (zQ env)),(4,int depth),(6,.ptr 2 0),(10,.ptr 3 0),(15,.ptr 4 0),(20,.row 5 i),(21,int i)])
   (fun i=>mkS (ms i)++[.box (zB (zBm D.id)),.box (zF Exp.zero),.box (zP D),.row false 37 15 i (qL (es.take i))]) (fun i=>i≤es.length) (fun i=>es.length-i) 0 (by simp)
   ((yA (t:=20) (by simp) 37 15).trans (zS [0,1,2,3,4,5] 0 (by decide) (by simp) (by simp[mkS,mkB,zB,zBm,q2,zF,Exp.zero,Id.zero,Typ.zero,zP,ekind]) (by simp))) ?_
  intro i hi;have hms:=q3 i (by omega);by_cases hi2:i<es.length
  ·have hid:i<D.slots.length:=by omega
   obtain⟨g1,_,_⟩:=q5 i hi2 (by rw[List.length_map]; omega);rw[List.getElem_map]at g1;have hst:qL (es.take (i+1))=qL (es.take i)++zF es[i]:=zAi hi2;have hw:IntKind.i64.wrap ((i:Int)+1)=(i:Int)+1:=IntWalk.i64_in _ (by omega);have hdS:List.drop (i*11+4) (jU D.slots)=(zAd D.slots[i]++jU (D.slots.drop (i+1))).drop 4:=by rw[←List.drop_drop,jL hid]
   have hbS:i*11+4+5≤D.slots.length*11:=by omega
   simp[mkS,mkB,zP,hid,hdS,hbS,zAd,wd];intro _;refine zN g1 [0,1] (by decide) (by simp[mkS,mkB]) (by simp[zB]) ?_;simp[mkS,mkB];refine⟨⟨by simp[maxLen]; omega,by omega⟩,?_⟩;exact zT (i+1) hi2 (by omega) (zS [0,1,2,3,4,5] 0 (by decide) (by simp) (by simp[mkS,mkB,zB,zBm,zF,Exp.zero,Id.zero,Typ.zero,hst,zP]) (by simp[hw]))
  ·have hie:i=es.length:=by omega
   subst hie;have hid:¬es.length<D.slots.length:=by omega
   rw[←q1]at l3 l4 l5 l6;simp[mkS,mkB,zP,hid];intro _;refine⟨qT [(0,.ptr 0 0),(10,.ptr 3 0),(15,.ptr 4 0),(20,.sl es.length (qL es))],mkS (ms es.length)++[.box (zB (zBm D.id)),.box (zF Exp.zero),.box (zP D)],zS [0,1,2,3,4] 1 (by decide) (by simp) (by simp[mkS,mkB,zB,zBm,zF,Exp.zero,Id.zero,Typ.zero,zP]) (by simp),?_⟩;simp[mkS,mkB];refine zN (yH (ms es.length) 7 0 es l3 (by omega) (by omega) l6) [0,1] (by decide) (by simp[mkS,mkB]) (by simp) ?_;simp[mkS,mkB,zF,zP];exact zG [0,1] 0 (by decide) (by simp) (by simp) (by simp[zF])
 ·have:=(q5 j hj (by rw[List.length_map]; omega)).2.1;rw[List.getElem_map]at this
  simpa only[eslots] using this
theorem zVx {hs:List Hd}{R:Nat}{m:Mk}{env:List Bnd}{c depth:Int}{Q:Nat→Prop}{len:Nat}(hc:0≤c)(hl:Lim m (6*c+1))(x:Int)(hx0:0≤x)(hx1:x≤65536)(t:Typ){r:Nat}(hr:TyOk hs r t)(hQ:∀r'<r,Q r')
 (hk:zBd hs R c (depth-1) Q len)(hx:Cx hs R m)(he:EnvOk hs R m.temp env)(h5:0<env.length)(h6:env.length≤len)(hd1 : -1000≤depth)(hd2:depth≤1000) :
 zA5 hs m.own zMR m [.ptr 0 0,.agg (zB t),.sl env.length (zQ env),int x,int depth] env t (6*c+1):=by
 cases hr with
 | int r=>exact(zXL (R:=R) (hl.mono (by omega)) x depth hx0 hx1).mono (by omega)
 | bool r=>exact(zVu (hl.mono (by omega)) x depth hx0).mono (by omega)
 | list r t h=>exact(zVw hc (hl.mono (by omega)) x hx0 t h (hQ r (by omega)) hk hx he h5 h6 hd1 hd2).mono (by omega)
 | dfn r k h h1 h2 h3 h4 =>
  rcases h2 with h2 | ⟨h2,h2'⟩
  ·exact zXM hc hl x k h h1 h2 h3 h4 (hQ r (by omega)) hk hx he h5 h6 hd1 hd2
  ·exact(zVv hc (hl.mono (by omega)) x hx0 hx1 k h h1 h2 h2' h3 h4 (hQ r (by omega)) hk hx he h5 h6 hd1 hd2).mono (by omega)
@[simp] theorem qNv:zA Tryz.prog 136=true:=by kernel_rfl
@[simp] theorem qN6:zA Tryz.prog 98=true:=by kernel_rfl
def zJE:K:=G [kO 6 1,kZ 10 kz1] (Z (G [D 16 6 0,L 17 16 1,kQi 18 17 0 false] (Y 18 (Z (G [M 19 3,kBi 20 19 6 .rem,kQi 21 20 5 false] (Y 21 (G [M 22 0,M 23 0,kb 24 kz2 [],kC 25 74 [(kt 24)],M 26 2,M 27 4,kBi 28 27 1 .sub,kC 29 34 [(kt 23),(kt 25),(kt 26),(kt 28)],kd 30 37 15 1 kz1 [(0,15,(kt 29))],kC 31 80 [(kt 22),(kc 4),(kc 11),(kt 30)],S 10 31 15] kr) ks)) (G [M 32 0,J 33 6 5,M 34 2,M 35 4,kBi 36 35 1 .sub,kC 37 34 [(kt 32),(kt 33),(kt 34),(kt 36)],kZ 11 kz1,S 11 37 15] (Z (K.dops [(0,0,M 38 0),(1,0,kd 39 3 1 5 [ki,ki,ki,ki,ki] [(0,1,(kc 0)),(1,1,(kc 1)),(2,1,(kc 2)),(3,1,(kc 3)),(4,1,(kc 4))]),(2,0,M 40 3),(3,0,kBi 41 40 5 .rem),(4,2,kX 42 39 41 1),(5,2,L 43 42 1),(6,2002,J 44 11 15),(7,0,M 45 0),(8,0,J 46 6 5),(9,0,M 47 2),(10,0,M 48 4),(11,0,kBi 49 48 1 .sub),(12,1002,kC 50 34 [(kt 45),(kt 46),(kt 47),(kt 49)]),(13,0,kd 51 37 15 2 kz6 [(0,15,(kt 44)),(15,15,(kt 50))]),(14,4,kC 52 80 [(kt 38),(kc 4),(kt 43),(kt 51)]),(15,0,S 10 52 15)]) kr))) ks)) (Z (G [D 53 6 0,L 54 53 1,kQi 55 54 1 false] (Y 55 (Z (G [M 56 3,kBi 57 56 6 .rem,kQi 58 57 0 false] (Y 58 (G [M 59 0,M 60 0,J 61 6 5,M 62 2,M 63 4,kBi 64 63 1 .sub,kC 65 34 [(kt 60),(kt 61),(kt 62),(kt 64)],kd 66 37 15 1 kz1 [(0,15,(kt 65))],kC 67 80 [(kt 59),(kc 4),(kc 9),(kt 66)],S 10 67 15] kr) ks)) (G [kb 68 kz2 [],kZ 12 kz2,S 12 68 5] (G [kMi 13 5] (Z (G [M 69 3,kBi 70 69 6 .rem,kQi 71 70 2 false] (Y 71 (K.ops [kMi 13 6]) ks)) (Z (G [M 72 3,kBi 73 72 6 .rem,kQi 74 73 3 false] (Y 74 (G [kMi 13 6] (K.ops [M 75 2,
 M 76 3,kBi 77 76 6 .quo,M 78 2,kN 79 78,kB 80 77 79 .rem,kX 81 75 80 9,D 82 81 4,J 83 82 5,S 12 83 5])) ks)) (Z (G [M 84 3,kBi 85 84 6 .rem,kBi 86 85 4 .geq] (Y 86 (G [kd 87 3 1 2 [ki,ki] [(0,1,(kc 7)),(1,1,(kc 8))],M 88 3,kBi 89 88 6 .rem,kBi 90 89 4 .sub,kX 91 87 90 1,L 92 91 1,M 13 92] (K.ops [J 93 6 5,S 12 93 5])) ks)) (G [M 94 0,J 95 12 5,M 96 2,M 97 4,kBi 98 97 1 .sub,kC 99 34 [(kt 94),(kt 95),(kt 96),(kt 98)],kZ 14 kz1,S 14 99 15] (Z (K.dops [(0,0,M 100 0),(1,0,M 101 13),(2,2002,J 102 14 15),(3,0,M 103 0),(4,0,J 104 12 5),(5,0,M 105 2),(6,0,M 106 4),(7,0,kBi 107 106 1 .sub),(8,1002,kC 108 34 [(kt 103),(kt 104),(kt 105),(kt 107)]),(9,0,kd 109 37 15 2 kz6 [(0,15,(kt 102)),(15,15,(kt 108))]),(10,4,kC 110 80 [(kt 100),(kc 4),(kt 101),(kt 109)]),(11,0,S 10 110 15)]) kr)))))))) ks)) (Z (G [D 111 6 0,L 112 111 1,kQi 113 112 2 false,M 114 113,T 114 true (M 115 3),T 114 true (kBi 116 115 2 .rem),T 114 true (kQi 117 116 0 false),kPf 118 114 117] (Y 118 (G [M 119 0,J 120 6 5,M 121 2,M 122 4,kBi 123 122 1 .sub,kC 124 34 [(kt 119),(kt 120),(kt 121),(kt 123)],kZ 15 kz1,S 15 124 15] (Z (K.dops [(0,0,M 125 0),(1,2002,J 126 15 15),(2,0,M 127 0),(3,0,J 128 6 5),(4,0,M 129 2),(5,0,M 130 4),(6,0,kBi 131 130 1 .sub),(7,1002,kC 132 34 [(kt 127),(kt 128),(kt 129),(kt 131)]),(8,0,kd 133 37 15 2 kz6 [(0,15,(kt 126)),(15,15,(kt 132))]),(9,4,kC 134 80 [(kt 125),(kc 4),(kc 10),(kt 133)]),(10,0,S 10 134 15)]) kr)) ks)) (G [M 135 0,J 136 6 5,M 137 2,M 138 3,kBi 139 138 2 .quo,
 M 140 4,kC 141 79 [(kt 135),(kt 136),(kt 137),(kt 139),(kt 140)],S 10 141 15] kr))))
def qO2:Nat→Option (List (Nat×Nat)):=fun r=>match r with | 5=>some [(0,0),(1,0),(2,0),(3,0),(4,2),(5,2),(6,2002),(7,0),(8,0),(9,0),(10,0),(11,0),(12,1002),(13,0),(14,4),(15,0)] | 20=>some [(0,0),(1,0),(2,2002),(3,0),(4,0),(5,0),(6,0),(7,0),(8,1002),(9,0),(10,4),(11,0)] | 23=>some [(0,0),(1,2002),(2,0),(3,0),(4,0),(5,0),(6,0),(7,1002),(8,0),(9,4),(10,0)] | _=>none
theorem zLl:qC Tryz.prog Tryz.f86.ntmps qO2 (Tryz.f86.body.getD .skip)=some zJE.erase:=by kernel_rfl
@[simp] theorem qNn:zA Tryz.prog 86=true:=by kernel_rfl
@[simp] theorem qJg {d:Option Nat}{x:Operand}{n:Nat}{g:Bool}{env:Env}:zAP 2002 (.ld d x n g) env=zBG 2 (ev env x):=propext (zHM (by omega) (by omega))
@[simp] theorem qCE {d:Option Nat}{x:Operand}{l:List Operand}{env:Env}:zAP 1002 (.call d x l) env=True:=rfl
@[simp] theorem zZM {c l o:Nat}:zBG c (.ptr l o)=(c≤l):=rfl
abbrev opF:FuncId:=86
theorem zGS {hs:List Hd}{R:Nat}{c depth:Int}{Q:Nat→Prop}{len:Nat}(hk:zBd hs R c depth Q len){m:Mk}{env:List Bnd}(hx:Cx hs R m){c':Int}(hl:Lim m (2*c+c'))(hc:0≤c)(hc':0≤c')(he:EnvOk hs R m.temp env)(h1:0<env.length)(h2:env.length≤len)
 (t u:Typ){r r':Nat}(ht:TyOk hs r t)(hu:TyOk hs r' u)(hQ:Q r)(hQ':Q r') :
 ∃(a b:Exp) (m1 m2:Mk),Ret Tryz.prog yU [.ptr 0 0,.agg (zB t),.sl env.length (zQ env),int depth] (mkS m) (.agg (zF a)) (mkS m1) ∧
  Ret Tryz.prog yU [.ptr 0 0,.agg (zB u),.sl env.length (zQ env),int depth] (mkS m1) (.agg (zF b)) (mkS m2) ∧
  Adv m m2 (2*c)∧WT hs m.own env a t∧WT hs m.own env b u∧Seg m.temp m2.temp (tmps a++tmps b)∧a.num0∧b.num0∧Lim m2 c':=by
 obtain⟨a,m1,g1,g2,g3,g4,g5⟩:=hk m r t env hx (hl.mono (by omega)) ht hQ he h1 h2;have hl1:Lim m1 (c+c'):=Lim.adv (c:=c) (hl.mono (by omega)) g2;obtain⟨b,m2,k1,k2,k3,k4,k5⟩:=hk m1 r' u env (hx.adv g2) (hl1.mono (by omega)) hu hQ' (he.mono g2.temp1) h1 h2;rw[g2.own]at k3;exact⟨a,b,m1,m2,g1,k1,(g2.trans k2).mono (by omega),g3,k3,g4.append k4 g2.temp1 k2.temp1,g5,k5,Lim.adv hl1 k2⟩
theorem zEU {a b:Exp}{t0 t1:Int}{k n:Int}(h:Seg t0 t1 (tmps a++tmps b))(h1:t0≤t1):Seg t0 (t1+1) (tmps (.mk ⟨0,0,t1⟩ k n Id.zero Typ.zero [a,b] [])):=by simp only[tmps,jX,List.append_nil];exact h.append (Seg.one _) h1 (by omega)
theorem zD0 {a b:Exp}{c k n:Int}(h1:a.num0)(h2:b.num0):(Exp.mk ⟨0,0,c⟩ k n Id.zero Typ.zero [a,b] []).num0:=zCt (by simp[h1,h2])
theorem zK1 {a:Exp}{c k n:Int}{r:Id}(h1:a.num0):(Exp.mk ⟨0,0,c⟩ k n r Typ.zero [a] []).num0:=zCt (by simp[h1])
theorem zNh {a:Exp}{t0 t1:Int}{k n:Int}{r:Id}(h:Seg t0 t1 (tmps a))(h1:t0≤t1):Seg t0 (t1+1) (tmps (.mk ⟨0,0,t1⟩ k n r Typ.zero [a] [])):=by simp only[tmps,jX,List.append_nil];exact h.append (Seg.one _) h1 (by omega)
theorem zKq:Ret Tryz.prog 74 [.agg (zB jK)] [] (.agg (zB (jM jK))) []:=zXK jK
set_option maxHeartbeats 2000000 in
theorem qCj {hs:List Hd}{R:Nat}{m:Mk}{env:List Bnd}{c depth:Int}{len:Nat}(hc:0≤c)(hl2:Lim m (2*c+1))(x:Int)(hx0:0≤x)(hx1:x≤65536)
 (hk:zBd hs R c (depth-1) (fun r=>r≤R) len)(hR:1≤R)(hx:Cx hs R m)(he:EnvOk hs R m.temp env)(h1:0<env.length)(h2:env.length≤len)(h3:env.length≤1000)(hd1 : -1000≤depth)(hd2:depth≤1000) :
 zA5 hs m.own opF m [.ptr 0 0,.agg (zB jK),.sl env.length (zQ env),int x,int depth] env jK (2*c+1):=by
 have e6:x.tmod 6=x % 6:=tmN hx0;have e5:x.tmod 5=x % 5:=tmN hx0;have wd:IntKind.i64.wrap (depth-1)=depth-1:=IntWalk.i64_in _ (by omega);by_cases h6:x.tmod 6=5
 ·obtain⟨a,m1,g1,k2,k3,k4,k5⟩:=hk m 1 (jM jK) env hx (hl2.mono (by omega)) (.list _ _ (.int _)) hR he h1 h2;obtain⟨l1,l2,l3,l4,l5,l6,l7,l8⟩:=Lim.adv (c:=c) (c':=1) (hl2.mono (by omega)) k2;refine⟨.mk ⟨0,0,m1.temp⟩ 4 11 Id.zero Typ.zero [a] [],{m1 with temp:=m1.temp+1,left:=m1.left-1},?_,(k2.trans (yR _)).mono (by omega),.len _ _ _ _ k3,zNh k4 k2.temp1,zK1 k5⟩;refine zH Tryz.func86 rfl zLl (rs:=[.cell 10 15 true]) (by kernel_rfl) ?_;unfold zJE;simp[mkS,mkB,zB,jK,h6];refine zR zKq (by simp[zB,jK]) (by simp) ?_;simp[mkS,mkB,zB,wd];refine zN g1 [0,1] (by decide) (by simp[mkS,mkB]) (by simp[zB,jM]) ?_;simp[mkS,mkB];refine zN (yH m1 4 11 [a] l3 (by omega) (by omega) l6) [0,1] (by decide) (by simp[mkS,mkB]) (by simp[zJ]) ?_;simp[mkS,mkB];exact zG [0,1] 0 (by decide) (by simp) (by simp) (by simp[zF,zJ])
 ·obtain⟨a,b,m1,m2,g1,g2,k2,k3,k3',k4,k5,k6,hln⟩:=zGS (t:=jK) (u:=jK) (c':=1) hk hx hl2 hc (by omega) he h1 h2 (.int 0) (.int 0) (by omega) (by omega);obtain⟨l1,l2,l3,l4,l5,l6,l7,l8⟩:=hln;obtain⟨rest,hA⟩:∃rest,List.drop (x.tmod 5).toNat [A.lit (.int .i64 0),A.lit (.int .i64 1),A.lit (.int .i64 2),A.lit (.int .i64 3),A.lit (.int .i64 4)]=A.lit (.int .i64 (x.tmod 5))::rest:=by
   have:x.tmod 5=0∨x.tmod 5=1∨x.tmod 5=2∨x.tmod 5=3∨x.tmod 5=4:=by omega
   rcases this with e | e | e | e | e<;>rw[e]<;>exact⟨_,rfl⟩
  have a0:0≤x.tmod 5:=by omega
  have a1:(x.tmod 5).toNat<5:=by omega
  have a1':x.tmod 5<5:=by omega
  refine⟨.mk ⟨0,0,m2.temp⟩ 4 (x.tmod 5) Id.zero Typ.zero [a,b] [],{m2 with temp:=m2.temp+1,left:=m2.left-1},?_,k2.trans (yR _),.arith _ _ _ _ _ a0 (by omega) k3 k3',zEU k4 k2.temp1,zD0 k5 k6⟩;refine zH Tryz.func86 rfl zLl (rs:=[.cell 10 15 true]) (by kernel_rfl) ?_;unfold zJE;simp[mkS,mkB,zB,jK,h6,wd];refine zN g1 [0,1] (by decide) (by simp[mkS,mkB]) (by simp[zB]) ?_;simp[mkS,mkB,zB,hA,a0,a1,a1',wd];refine yX g2 [0,1] (by decide) (by simp[mkS,mkB]) (by simp[zB]) (by decide) (by simp) (by simp[mkS]) ?_;simp[mkS,mkB];refine zAr (yH m2 4 (x.tmod 5) [a,b] l3 (by omega) (by omega) l6) [0,1] (by decide) (by simp[mkS,mkB]) (by simp[zJ]) ?_;simp[mkS,mkB,zF,zJ];exact zG [0,1] 0 (by decide) (by simp) (by simp) (by simp[zF,zJ])
set_option maxHeartbeats 4000000 in
theorem zYd {hs:List Hd}{R:Nat}{m:Mk}{env:List Bnd}{c depth:Int}{len:Nat}(hc:0≤c)(hl2:Lim m (2*c+1))(x:Int)(hx0:0≤x)(hx1:x≤65536)
 (hk:zBd hs R c (depth-1) (fun r=>r≤R) len)(hR:1≤R)(hx:Cx hs R m)(he:EnvOk hs R m.temp env)(h1:0<env.length)(h2:env.length≤len)(h3:env.length≤1000)(hd1 : -1000≤depth)(hd2:depth≤1000) :
 zA5 hs m.own opF m [.ptr 0 0,.agg (zB jT),.sl env.length (zQ env),int x,int depth] env jT (2*c+1):=by
 have e6:x.tmod 6=x % 6:=tmN hx0;have d6:x.tdiv 6=x / 6:=tdN hx0;have wd:IntKind.i64.wrap (depth-1)=depth-1:=IntWalk.i64_in _ (by omega);have w0:IntKind.i64.wrap 0=0:=IntWalk.i64_in _ (by omega);have w1:IntKind.i64.wrap 1=1:=IntWalk.i64_in _ (by omega);have:x.tmod 6=0∨x.tmod 6=1∨x.tmod 6=2∨x.tmod 6=3∨x.tmod 6=4∨x.tmod 6=5:=by omega
 rcases this with e | e | e | e | e | e
 ·obtain⟨a,m1,g1,k2,k3,k4,k5⟩:=hk m 0 jT env hx (hl2.mono (by omega)) (.bool _) (by omega) he h1 h2;obtain⟨l1,l2,l3,l4,l5,l6,l7,l8⟩:=Lim.adv (c:=c) (c':=1) (hl2.mono (by omega)) k2;refine⟨.mk ⟨0,0,m1.temp⟩ 4 9 Id.zero Typ.zero [a] [],{m1 with temp:=m1.temp+1,left:=m1.left-1},?_,(k2.trans (yR _)).mono (by omega),.not _ _ _ k3,zNh k4 k2.temp1,zK1 k5⟩;refine zH Tryz.func86 rfl zLl (rs:=[.cell 10 15 true]) (by kernel_rfl) ?_;unfold zJE;simp[mkS,mkB,zB,jT,e,wd];refine zN g1 [0,1] (by decide) (by simp[mkS,mkB]) (by simp[zB]) ?_;simp[mkS,mkB];refine zN (yH m1 4 9 [a] l3 (by omega) (by omega) l6) [0,1] (by decide) (by simp[mkS,mkB]) (by simp[zJ]) ?_;simp[mkS,mkB];exact zG [0,1] 0 (by decide) (by simp) (by simp) (by simp[zF,zJ])
 ·obtain⟨a,b,m1,m2,g1,g2,k2,k3,k3',k4,k5,k6,hln⟩:=zGS (t:=jK) (u:=jK) (c':=1) hk hx hl2 hc (by omega) he h1 h2 (.int 0) (.int 0) (by omega) (by omega);obtain⟨l1,l2,l3,l4,l5,l6,l7,l8⟩:=hln;refine⟨.mk ⟨0,0,m2.temp⟩ 4 5 Id.zero Typ.zero [a,b] [],{m2 with temp:=m2.temp+1,left:=m2.left-1},?_,k2.trans (yR _),.less _ _ _ _ k3 k3',zEU k4 k2.temp1,zD0 k5 k6⟩;refine zH Tryz.func86 rfl zLl (rs:=[.cell 10 15 true]) (by kernel_rfl) ?_;unfold zJE;simp[mkS,mkB,zB,jT,e,wd];refine zN g1 [0,1] (by decide) (by simp[mkS,mkB]) (by simp[zB]) ?_;simp[mkS,mkB,zB,wd];refine yX g2 [0,1] (by decide) (by simp[mkS,mkB]) (by simp[zB]) (by decide) (by simp) (by simp[mkS]) ?_;simp[mkS,mkB];refine zAr (yH m2 4 5 [a,b] l3 (by omega) (by omega) l6) [0,1] (by decide) (by simp[mkS,mkB]) (by simp[zJ]) ?_;simp[mkS,mkB,zF,zJ];exact zG [0,1] 0 (by decide) (by simp) (by simp) (by simp[zF,zJ])
 ·obtain⟨a,b,m1,m2,g1,g2,k2,k3,k3',k4,k5,k6,hln⟩:=zGS (t:=jK) (u:=jK) (c':=1) hk hx hl2 hc (by omega) he h1 h2 (.int 0) (.int 0) (by omega) (by omega);obtain⟨l1,l2,l3,l4,l5,l6,l7,l8⟩:=hln;refine⟨.mk ⟨0,0,m2.temp⟩ 4 6 Id.zero Typ.zero [a,b] [],{m2 with temp:=m2.temp+1,left:=m2.left-1},?_,k2.trans (yR _),.same _ _ _ _ jK k3 k3',zEU k4 k2.temp1,zD0 k5 k6⟩;refine zH Tryz.func86 rfl zLl (rs:=[.cell 10 15 true]) (by kernel_rfl) ?_;unfold zJE;simp[mkS,mkB,zB,jT,e,wd];refine zN g1 [0,1] (by decide) (by simp[mkS,mkB]) (by simp[zB]) ?_;simp[mkS,mkB,zB,wd];refine yX g2 [0,1] (by decide) (by simp[mkS,mkB]) (by simp[zB]) (by decide) (by simp) (by simp[mkS]) ?_;simp[mkS,mkB];refine zAr (yH m2 4 6 [a,b] l3 (by omega) (by omega) l6) [0,1] (by decide) (by simp[mkS,mkB]) (by simp[zJ]) ?_;simp[mkS,mkB,zF,zJ];exact zG [0,1] 0 (by decide) (by simp) (by simp) (by simp[zF,zJ])
 ·obtain⟨j,hj,e1⟩:∃j:Nat,j<env.length∧(x.tdiv 6).tmod (env.length:Int)=j:=by
   have q0:0≤x.tdiv 6:=by omega
   have q1:=Int.emod_lt_of_pos (x.tdiv 6) (b:=(env.length:Int)) (by omega);have q2:=Int.emod_nonneg (x.tdiv 6) (b:=(env.length:Int)) (by omega);exact⟨((x.tdiv 6) % env.length).toNat,by omega,by rw[tmN q0]; omega⟩
  have hdr:=zBW hj;have hdr4:List.drop (j*9+4) (zQ env)=(zA9 env[j]++zQ (env.drop (j+1))).drop 4:=by rw[←List.drop_drop,hdr]
  have hb4:j*9+4+5≤env.length*9:=by omega
  have hne:¬((env.length:Int)=0):=by omega
  have hnil:env≠[]:=fun e=>by rw[e]at h1; simp at h1
  have htu:=he.typs env[j] (List.getElem_mem hj);have w6:IntKind.i64.wrap (x.tdiv 6)=x.tdiv 6:=IntWalk.i64_in _ (by omega);obtain⟨a,b,m1,m2,g1,g2,k2,k3,k3',k4,k5,k6,hln⟩:=zGS (t:=env[j].typ) (u:=env[j].typ) (c':=1) hk hx hl2 hc (by omega) he h1 h2 htu htu (by omega) (by omega);obtain⟨l1,l2,l3,l4,l5,l6,l7,l8⟩:=hln;refine⟨.mk ⟨0,0,m2.temp⟩ 4 6 Id.zero Typ.zero [a,b] [],{m2 with temp:=m2.temp+1,left:=m2.left-1},?_,k2.trans (yR _),.same _ _ _ _ env[j].typ k3 k3',zEU k4 k2.temp1,zD0 k5 k6⟩;refine zH Tryz.func86 rfl zLl (rs:=[.cell 10 15 true]) (by kernel_rfl) ?_;unfold zJE;simp[mkS,mkB,zB,jT,e,wd,e1,hne,hnil,hj,hdr4,hb4,zA9,w6];intro _;refine zN g1 [0,1] (by decide) (by simp[mkS,mkB]) (by simp[zB]) ?_;simp[mkS,mkB,zB,wd];refine yX g2 [0,1] (by decide) (by simp[mkS,mkB]) (by simp[zB]) (by decide) (by simp) (by simp[mkS]) ?_;simp[mkS,mkB];refine zAr (yH m2 4 6 [a,b] l3 (by omega) (by omega) l6) [0,1] (by decide) (by simp[mkS,mkB]) (by simp[zJ]) ?_;simp[mkS,mkB,zF,zJ];exact zG [0,1] 0 (by decide) (by simp) (by simp) (by simp[zF,zJ])
 ·obtain⟨a,b,m1,m2,g1,g2,k2,k3,k3',k4,k5,k6,hln⟩:=zGS (t:=jT) (u:=jT) (c':=1) hk hx hl2 hc (by omega) he h1 h2 (.bool 0) (.bool 0) (by omega) (by omega);obtain⟨l1,l2,l3,l4,l5,l6,l7,l8⟩:=hln;refine⟨.mk ⟨0,0,m2.temp⟩ 4 7 Id.zero Typ.zero [a,b] [],{m2 with temp:=m2.temp+1,left:=m2.left-1},?_,k2.trans (yR _),.andor _ _ _ _ _ (.inl rfl) k3 k3',zEU k4 k2.temp1,zD0 k5 k6⟩;refine zH Tryz.func86 rfl zLl (rs:=[.cell 10 15 true]) (by kernel_rfl) ?_;unfold zJE;simp[mkS,mkB,zB,jT,e,wd,w0];refine zN g1 [0,1] (by decide) (by simp[mkS,mkB]) (by simp[zB]) ?_;simp[mkS,mkB,zB,wd];refine yX g2 [0,1] (by decide) (by simp[mkS,mkB]) (by simp[zB]) (by decide) (by simp) (by simp[mkS]) ?_;simp[mkS,mkB];refine zAr (yH m2 4 7 [a,b] l3 (by omega) (by omega) l6) [0,1] (by decide) (by simp[mkS,mkB]) (by simp[zJ]) ?_;simp[mkS,mkB,zF,zJ];exact zG [0,1] 0 (by decide) (by simp) (by simp) (by simp[zF,zJ])
 ·obtain⟨a,b,m1,m2,g1,g2,k2,k3,k3',k4,k5,k6,hln⟩:=zGS (t:=jT) (u:=jT) (c':=1) hk hx hl2 hc (by omega) he h1 h2 (.bool 0) (.bool 0) (by omega) (by omega);obtain⟨l1,l2,l3,l4,l5,l6,l7,l8⟩:=hln;refine⟨.mk ⟨0,0,m2.temp⟩ 4 8 Id.zero Typ.zero [a,b] [],{m2 with temp:=m2.temp+1,left:=m2.left-1},?_,k2.trans (yR _),.andor _ _ _ _ _ (.inr rfl) k3 k3',zEU k4 k2.temp1,zD0 k5 k6⟩;refine zH Tryz.func86 rfl zLl (rs:=[.cell 10 15 true]) (by kernel_rfl) ?_;unfold zJE;simp[mkS,mkB,zB,jT,e,wd,w1];refine zN g1 [0,1] (by decide) (by simp[mkS,mkB]) (by simp[zB]) ?_;simp[mkS,mkB,zB,wd];refine yX g2 [0,1] (by decide) (by simp[mkS,mkB]) (by simp[zB]) (by decide) (by simp) (by simp[mkS]) ?_;simp[mkS,mkB];refine zAr (yH m2 4 8 [a,b] l3 (by omega) (by omega) l6) [0,1] (by decide) (by simp[mkS,mkB]) (by simp[zJ]) ?_;simp[mkS,mkB,zF,zJ];exact zG [0,1] 0 (by decide) (by simp) (by simp) (by simp[zF,zJ])
set_option maxHeartbeats 2000000 in
theorem zYe {hs:List Hd}{R:Nat}{m:Mk}{env:List Bnd}{c depth:Int}{len:Nat}(hc:0≤c)(hl2:Lim m (2*c+1))(x:Int)(hx0:0≤x)(hx1:x≤65536)
 (hk:zBd hs R c (depth-1) (fun r=>r≤R) len)(hR:1≤R)(hx:Cx hs R m)(he:EnvOk hs R m.temp env)(h1:0<env.length)(h2:env.length≤len)(h3:env.length≤1000)(hd1 : -1000≤depth)(hd2:depth≤1000)(t:Typ)(ht:TyOk hs R (jM t))(h5:x.tmod 2=0) :
 zA5 hs m.own opF m [.ptr 0 0,.agg (zB (jM t)),.sl env.length (zQ env),int x,int depth] env (jM t) (2*c+1):=by
 have wd:IntKind.i64.wrap (depth-1)=depth-1:=IntWalk.i64_in _ (by omega);obtain⟨a,b,m1,m2,g1,g2,k2,k3,k3',k4,k5,k6,hln⟩:=zGS (t:=(jM t)) (u:=(jM t)) (c':=1) hk hx hl2 hc (by omega) he h1 h2 ht ht (by omega) (by omega);obtain⟨l1,l2,l3,l4,l5,l6,l7,l8⟩:=hln;refine⟨.mk ⟨0,0,m2.temp⟩ 4 10 Id.zero Typ.zero [a,b] [],{m2 with temp:=m2.temp+1,left:=m2.left-1},?_,k2.trans (yR _),.join _ _ _ _ _ k3 k3',zEU k4 k2.temp1,zD0 k5 k6⟩;refine zH Tryz.func86 rfl zLl (rs:=[.cell 10 15 true]) (by kernel_rfl) ?_;unfold zJE;simp[mkS,mkB,zB,jM,h5,wd];refine zN g1 [0,1] (by decide) (by simp[mkS,mkB]) (by simp[zB,jM]) ?_;simp[mkS,mkB,zB,wd];refine yX g2 [0,1] (by decide) (by simp[mkS,mkB]) (by simp[zB,jM]) (by decide) (by simp) (by simp[mkS]) ?_;simp[mkS,mkB];refine zAr (yH m2 4 10 [a,b] l3 (by omega) (by omega) l6) [0,1] (by decide) (by simp[mkS,mkB]) (by simp[zJ]) ?_;simp[mkS,mkB,zF,zJ];exact zG [0,1] 0 (by decide) (by simp) (by simp) (by simp[zF,zJ])
theorem qCk {hs:List Hd}{R:Nat}{m:Mk}{env:List Bnd}{c depth:Int}{len:Nat}(hc:0≤c)(hl2:Lim m (2*c+1))(x:Int)(hx0:0≤x)(hx1:x≤65536)
 (hk:zBd hs R c (depth-1) (fun r=>r≤R) len)(hR:1≤R)(hx:Cx hs R m)(he:EnvOk hs R m.temp env)(h1:0<env.length)(h2:env.length≤len)(h3:env.length≤1000)(hd1 : -1000≤depth)(hd2:depth≤1000)(t:Typ)(ht:TyOk hs R t)(h4:t.k≠0)(h5:t.k≠1)(h6:t.k≠2∨x.tmod 2≠0)(hl:Lim m (6*c+1)) :
 zA5 hs m.own opF m [.ptr 0 0,.agg (zB t),.sl env.length (zQ env),int x,int depth] env t (6*c+1):=by
 have d2:x.tdiv 2=x / 2:=tdN hx0;have w2:IntKind.i64.wrap (x.tdiv 2)=x.tdiv 2:=IntWalk.i64_in _ (by omega);obtain⟨e,m',g1,g2⟩:=zVx hc hl (x.tdiv 2) (by omega) (by omega) t ht (fun r' h=>by omega) hk hx he h1 h2 hd1 hd2;refine⟨e,m',?_,g2⟩;refine zH Tryz.func86 rfl zLl (rs:=[.cell 10 15 true]) (by kernel_rfl) ?_;unfold zJE;by_cases h2:t.k=2
 ·have h7:x.tmod 2≠0:=h6.resolve_left (fun h=>h h2);simp[mkS,mkB,zB,h2,h7,w2];refine zN g1 [0,1] (by decide) (by simp[mkS,mkB]) (by simp[zB,h2]) ?_;simp[mkS,mkB];exact zG [0,1] 0 (by decide) (by simp) (by simp) (by simp[zF])
 ·simp[mkS,mkB,zB,h2,h4,h5,w2];refine zN g1 [0,1] (by decide) (by simp[mkS,mkB]) (by simp[zB]) ?_;simp[mkS,mkB];exact zG [0,1] 0 (by decide) (by simp) (by simp) (by simp[zF])
theorem qI7 {hs:List Hd}{R:Nat}{m:Mk}{env:List Bnd}{c depth:Int}{len:Nat}(hc:0≤c)(hl:Lim m (7*c+7))(x:Int)(hx0:0≤x)(hx1:x≤65536)
 (hk:zBd hs R c (depth-1) (fun r=>r≤R) len)(hR:1≤R)(hx:Cx hs R m)(he:EnvOk hs R m.temp env)(h1:0<env.length)(h2:env.length≤len)(h3:env.length≤1000)(hd1 : -1000≤depth)(hd2:depth≤1000)(t:Typ)(ht:TyOk hs R t) :
 zA5 hs m.own opF m [.ptr 0 0,.agg (zB t),.sl env.length (zQ env),int x,int depth] env t (7*c+7):=by
 have hlit:=fun h4 h5 h6=>(qCk (hl:=hl.mono (by omega)) hc (hl.mono (by omega)) x hx0 hx1 hk hR hx he h1 h2 h3 hd1 hd2 t ht h4 h5 h6).mono (show 6*c+1≤7*c+7 by omega)
 cases ht with
 | int r=>exact(qCj hc (hl.mono (by omega)) x hx0 hx1 hk hR hx he h1 h2 h3 hd1 hd2).mono (by omega)
 | bool r=>exact(zYd hc (hl.mono (by omega)) x hx0 hx1 hk hR hx he h1 h2 h3 hd1 hd2).mono (by omega)
 | list r t h =>
  by_cases h5:x.tmod 2=0
  ·exact(zYe hc (hl.mono (by omega)) x hx0 hx1 hk hR hx he h1 h2 h3 hd1 hd2 t (.list _ _ h) h5).mono (by omega)
  ·exact hlit (by simp) (by simp) (.inr h5)
 | dfn r k h h1 h2 h3 h4=>exact hlit (by simp) (by simp) (.inl (by simp))
theorem zY0 {n:Nat}(h:n≤1000000000):w64 (n:Int)=n:=IntWalk.i64_in _ (by omega)
theorem zIF:∀(v:Val),qH v≤100000000→zDc v=qH v:=by
 intro v h;rw[zKR,zHJ];have key:∀i,i≤v.kids.length→zKV (v.kids.take i)=((1+qV (v.kids.take i):Nat):Int):=by
  intro i;induction i with
  | zero=>intro _; simp[zKV,qV]
  | succ i ih =>
   intro hi;have e1:=zFJ (l:=v.kids) (i:=i) (by omega);have e2:=zHK v.kids (i+1);have e3:=zHJ v;have hk:qH (v.kids[i]'(by omega))<qH v:=zAu (List.getElem_mem _);rw[zIG (by omega),ih (by omega),zIF (v.kids[i]'(by omega)) (by omega),e1];rw[IntWalk.i64_in _ (by omega)];omega
 have:=key v.kids.length (Nat.le_refl _)
 rwa [List.take_length]at this
termination_by v=>qH v
theorem zFu:∀(a b:List Val),yV (a++b)=max (yV a) (yV b)
 | [],b=>by simp[yV]
 | x::a,b=>by simp only[List.cons_append,yV,zFu a b]; omega
mutual
theorem zLD:∀(v:Val),zA0 v≤qH v
 | .mk _ _ l=>by simp only[zA0,qH]; have:=zJV l; omega
theorem zJV:∀(l:List Val),yV l≤qV l
 | []=>by simp[yV]
 | v::l=>by simp only[yV,qV]; have:=zLD v; have:=zJV l; omega
end
theorem zJU:∀(v:Val),qH v≤100000000→zB5 v=zA0 v:=by
 intro v h;rw[zFV,zIf];have key:∀i,i≤v.kids.length→zIv (v.kids.take i)=((yV (v.kids.take i):Nat):Int):=by
  intro i;induction i with
  | zero=>intro _; simp[zIv,yV]
  | succ i ih =>
   intro hi;have hk:qH (v.kids[i]'(by omega))<qH v:=zAu (List.getElem_mem _);rw[zGi (by omega),ih (by omega),zJU (v.kids[i]'(by omega)) (by omega),List.take_succ_eq_append_getElem (by omega),zFu];simp only[yV,zOp];split<;>omega
 have:=key v.kids.length (Nat.le_refl _);rw[List.take_length]at this;rw[this];have h1:=zLD v;have h2:=zIf v;have:((yV v.kids:Nat):Int)+1=((yV v.kids+1:Nat):Int):=by omega
 rw[this,zY0 (by omega)]
termination_by v=>qH v
end Go.Proofs.YthglhccibdlccaaGreatDoor
