/-
  The maker's literals of variants and records; all literals.
  fits and Valid of the reference.
-/
import Derived.Test.YthglhccibdlccaaGreatDoorX28
import Derived.Test.YthglhccibdlccaaGreatDoorX27
set_option linter.unusedVariables false
set_option linter.unusedSimpArgs false
namespace Go.Proofs.YthglhccibdlccaaGreatDoor
open Go.Abs
theorem zJ9 {σ τ : St}(hk:zBF σ τ){j:Nat}{o:AObj}(h : σ[j]?=some o)(hn:o≠AObj.rsv):yB τ [j] [o] = τ:=by
 have h1:=hk j o h hn;have hlt:j < τ.length:=by
  by_cases hl:j < τ.length
  ·exact hl
  ·rw[List.getElem?_eq_none (by omega)]at h1; cases h1
 rw[List.getElem?_eq_getElem hlt]at h1;simp only[yB];injection h1 with h1
 rw[←h1,List.append_nil];exact List.set_getElem_self hlt
theorem zAB.mono {hs:List Hd}{own:Int}{f:FuncId}{m:Mk}{args:List A}{env:List Bnd}{t:Typ}{c c':Int}(h:zAB hs own f m args env t c)(hc:c≤c'):zAB hs own f m args env t c':=by obtain⟨e,m',h1,h2,h3,h4,h5⟩:=h;exact⟨e,m',h1,h2.mono hc,h3,h4,h5⟩
theorem zWl {hs:List Hd}{R:Nat}{c depth:Int}{Q:Nat→Prop}{len:Nat}(hk:zBg hs R c depth Q len)(hc:0≤c)(envs:Nat→List Bnd)(t:Typ){r:Nat}(hr:TyOk hs r t)(hQ:Q r)
 (m:Mk)(hx:Cx hs R m)(he:∀j,EnvOk hs R m.temp (envs j))(h1:∀j,0<(envs j).length)(h2:∀j,(envs j).length≤len):∀(k:Nat),Lim m (k*(c+1)) →
  ∃(es:List Exp) (ns:List ByteArray) (ms:Nat→Mk),es.length=k∧ns.length=k∧ms 0=m∧(∀j≤k,Adv m (ms j) (j*(c+1)))∧Seg m.temp (ms k).temp (jY es) ∧
   ∀(j:Nat) (hj:j<es.length) (hj':j<ns.length),∃mm:Mk,Ret Tryz.prog yS [.ptr 0 0,.agg (zB t),.sl (envs j).length (zS (envs j)),int depth] (mkS (ms j)) (.agg (zH es[j])) (mkS mm) ∧
    Ret Tryz.prog 81 [.ptr 0 0] (mkS mm) (.lit (.string ns[j])) (mkS (ms (j+1)))∧WT hs m.own (envs j) es[j] t∧es[j].num0:=by
 intro k;induction k with
 | zero =>
  intro hl;refine⟨[],[],fun _=>m,rfl,rfl,rfl,fun j hj=>?_,Seg.nil,fun j hj=>by simp at hj⟩;have:j=0:=by simpa using hj
  subst this;exact(Adv.zero m).mono (by simp)
 | succ k ih =>
  intro hl;have e1:(((k+1:Nat):Int))*(c+1)=k*(c+1)+(c+1):=by rw[Int.natCast_add,Int.add_mul]; simp
  rw[e1]at hl;obtain⟨es,ns,ms,q0,q1,q2,q3,q4,q5⟩:=ih (hl.mono (by omega));have a1:=q3 k (Nat.le_refl _);have hl1:=Lim.adv (c:=k*(c+1)) (c':=c+1) hl a1;obtain⟨e,mm,g1,g2,g3,g4,g5⟩:=hk (ms k) r t (envs k) (hx.adv a1) (hl1.mono (by omega)) hr hQ ((he k).mono a1.temp1) (h1 k) (h2 k);have hl2:=Lim.adv (c:=c) (c':=1) hl1 g2;obtain⟨s,hs⟩:=zJp mm hl2.name1 (by have:=hl2.name2; omega);have a2:=g2.trans (zHi mm);refine⟨es++[e],ns++[s],fun j=>if j≤k then ms j else {mm with name:=mm.name+1},by simp[q0],by simp[q1],by simp[q2],fun j hj=>?_,?_,fun j hj hj'=>?_⟩
  ·by_cases hle:j≤k
   ·simp only[hle,if_true]; exact q3 j hle
   ·have:j=k+1:=by omega
    subst this;simp only[show ¬(k+1≤k) by omega,if_false];rw[e1];exact a1.trans a2
  ·rw[zDx];simp only[show ¬(k+1≤k) by omega,if_false];exact q4.append g4 a1.temp1 g2.temp1
  ·simp only[List.length_append,List.length_singleton,q0]at hj;by_cases hlt:j<k
   ·have hjes:j<es.length:=by omega
    have hjns:j<ns.length:=by omega
    rw[List.getElem_append_left hjes,List.getElem_append_left hjns];simp only[show j≤k by omega,if_true,show j+1≤k by omega];exact q5 j hjes hjns
   ·have:j=k:=by omega
    subst this;rw[List.getElem_append_right (by omega),List.getElem_append_right (by omega)];simp only[Nat.le_refl,if_true,show ¬(j+1≤j) by omega,if_false,Nat.sub_self,q0,q1,List.getElem_cons_zero];rw[a1.own]at g3;exact⟨mm,g1,hs,g3,g5⟩
theorem zUx {hs:List Hd}{R:Nat}{m:Mk}{env:List Bnd}{c depth:Int}{Q:Nat→Prop}{len:Nat}(hc:0≤c)(hl:Lim m (c+1))(x:Int)(hx0:0≤x)(hx1:x≤65536)(k:Nat)(h:k<hs.length)(h1:∀(j:Nat)(hj:j<k),hs[j].id≠hs[k].id)
 (h2:hs[k].kind=1)(h3:0<hs[k].slots.length)(h3':hs[k].slots.length≤6){r:Nat}(h4:∀s∈hs[k].slots,TyOk hs r s.typ)(hQ:Q r)
 (hk:zBg hs R c (depth-1) Q len)(hx:Cx hs R m)(he:EnvOk hs R m.temp env)(h5:0<env.length)(h6:env.length≤len)(hd1 : -1000≤depth)(hd2:depth≤1000) :
 zAB hs m.own zM9 m [.ptr 0 0,.agg (zB (zA9 hs[k].id)),.sl env.length (zS env),int x,int depth] env (zA9 hs[k].id) (c+1):=by
 obtain⟨hm,hdv,hhd⟩:=zZj hx h h1;generalize hD:m.defs[k]=D at hdv hhd;have eid:D.id=hs[k].id:=by rw[←hhd]; rfl
 have eslots:D.slots=hs[k].slots:=by rw[←hhd]; rfl
 have ekind:D.kind=1:=by rw[←h2,←hhd]; rfl
 have hdl:=hx.dlen;have hd100:=hx.len;have wd:IntKind.i64.wrap (depth-1)=depth-1:=IntWalk.i64_in _ (by omega);obtain⟨j,hj,hj1⟩:∃j:Nat,j<D.slots.length∧(j:Int)=if depth<0 then 0 else x.tmod D.slots.length:=by
  rw[eslots];by_cases hd:depth<0
  ·exact⟨0,h3,by rw[if_pos hd]; rfl⟩
  ·refine⟨(x % hs[k].slots.length).toNat,?_,?_⟩
   ·have:=Int.emod_lt_of_pos x (b:=(hs[k].slots.length:Int)) (by omega);have:=Int.emod_nonneg x (b:=(hs[k].slots.length:Int)) (by omega);omega
   ·rw[if_neg hd,tmN hx0];have:=Int.emod_nonneg x (b:=(hs[k].slots.length:Int)) (by omega);omega
 have hjs:j<hs[k].slots.length:=by rw[←eslots]; exact hj
 have hty:D.slots[j].typ=hs[k].slots[j].typ:=by simp only[eslots]
 obtain⟨e,m',g1,g2,g3,g4,g5⟩:=hk m r D.slots[j].typ env hx (hl.mono (by omega)) (by rw[hty]; exact h4 _ (List.getElem_mem hjs)) hQ he h5 h6;have hln:=Lim.adv (c:=c) (c':=1) hl g2;obtain⟨l1,l2,l3,l4,l5,l6,l7,l8⟩:=hln;refine⟨.mk ⟨0,0,m'.temp⟩ 9 j hs[k].id Typ.zero [e] [],{m' with temp:=m'.temp+1,left:=m'.left-1},?_,g2.trans (yR _),.case _ _ k h j hjs e h2 (hty▸g3),by simp only[tmps,jY,List.append_nil]; exact g4.append (Seg.one _) g2.temp1 (by omega),zCv (by simpa using g5)⟩;refine zJ Tryz.func79 rfl zSX (rs:=[.cell 10 15 true]) (by kernel_rfl) ?_;unfold zQy;simp[mkS,mkB,zB];refine⟨_,_,zAa 1,?_⟩;simp[mkS,mkB,zB,List.replicate];refine zRr (zOb m.mods m.defs hs[k].id (by omega)) [1] (by decide) (by simp[zKN]) (by simp[zKN]) (by simp[qL]) (fun τ hτ=>by
  have:=zJ9 hτ (j:=1) (o:=.row false 39 31 m.defs.length (zY m.defs)) (by simp) (by simp)
  simpa [zKN] using this) ?_
 rw[hdv];have hnil:D.slots≠[]:=fun e=>by rw[e]at hj; simp at hj
 have hdS:List.drop (j*11+4) (yA D.slots)=(yZ D.slots[j]++yA (D.slots.drop (j+1))).drop 4:=by rw[←List.drop_drop,qZ hj]
 have hbS:j*11+4+5≤D.slots.length*11:=by omega
 by_cases hd:depth<0
 ·have hj0:j=0:=by rw[if_pos hd]at hj1; omega
  subst hj0;simp only[Nat.zero_mul,Nat.zero_add]at hdS hbS;simp[mkS,mkB,zP,ekind,hnil,hd,hj,hdS,hbS,yZ,wd];intro _;refine zM g1 [0,1] (by decide) (by simp[mkS,mkB]) (by simp[zB]) ?_;simp[mkS,mkB];refine zM (yH m' 9 0 [e] l3 (by omega) (by omega) l6) [0,1] (by decide) (by simp[mkS,mkB]) (by simp[zL]) ?_;simp[mkS,mkB,zH];exact zF [0,1] 0 (by decide) (by simp) (by simp) (by simp[zH,zL,eid])
 ·rw[if_neg hd]at hj1;simp[mkS,mkB,zP,ekind,hnil,hd,←hj1,hj,hdS,hbS,yZ,wd];intro _;refine zM g1 [0,1] (by decide) (by simp[mkS,mkB]) (by simp[zB]) ?_;simp[mkS,mkB];refine zM (yH m' 9 j [e] l3 (by omega) (by omega) l6) [0,1] (by decide) (by simp[mkS,mkB]) (by simp[zL]) ?_;simp[mkS,mkB,zH];exact zF [0,1] 0 (by decide) (by simp) (by simp) (by simp[zH,zL,eid])
set_option maxHeartbeats 2000000 in
theorem zX7 {hs:List Hd}{R:Nat}{m:Mk}{env:List Bnd}{c depth:Int}{Q:Nat→Prop}{len:Nat}(hc:0≤c)(hl:Lim m (6*c+1))(x:Int)(k:Nat)(h:k<hs.length)(h1:∀(j:Nat)(hj:j<k),hs[j].id≠hs[k].id)
 (h2:hs[k].kind=0)(h3':hs[k].slots.length≤6){r:Nat}(h4:∀s∈hs[k].slots,TyOk hs r s.typ)(hQ:Q r)
 (hk:zBg hs R c (depth-1) Q len)(hx:Cx hs R m)(he:EnvOk hs R m.temp env)(h5:0<env.length)(h6:env.length≤len)(hd1 : -1000≤depth)(hd2:depth≤1000) :
 zAB hs m.own zM9 m [.ptr 0 0,.agg (zB (zA9 hs[k].id)),.sl env.length (zS env),int x,int depth] env (zA9 hs[k].id) (6*c+1):=by
 obtain⟨hm,hdv,hhd⟩:=zZj hx h h1;generalize hD:m.defs[k]=D at hdv hhd;have eid:D.id=hs[k].id:=by rw[←hhd]; rfl
 have eslots:D.slots=hs[k].slots:=by rw[←hhd]; rfl
 have ekind:D.kind=0:=by rw[←h2,←hhd]; rfl
 have hdl:=hx.dlen;have hd100:=hx.len;have wd:IntKind.i64.wrap (depth-1)=depth-1:=IntWalk.i64_in _ (by omega);have hS6:D.slots.length≤6:=by rw[eslots]; exact h3'
 have hsc:((D.slots.length:Int))*c≤6*c:=Int.mul_le_mul_of_nonneg_right (by omega) hc;obtain⟨es,ms,q1,q2,q3,q4,q5⟩:=zRp hk hc env h5 h6 (D.slots.map (·.typ)) m hx (hl.mono (by rw[List.length_map]; omega)) (fun t ht=>by obtain⟨s,hs',rfl⟩:=List.mem_map.1 ht;exact⟨r,h4 s (eslots▸hs'),hQ⟩) he
 rw[List.length_map]at q1 q3 q4;have ha:=(q3 D.slots.length (Nat.le_refl _)).mono hsc;obtain⟨l1,l2,l3,l4,l5,l6,l7,l8⟩:=Lim.adv (c:=6*c) (c':=1) hl ha;refine⟨.mk ⟨0,0,(ms es.length).temp⟩ 7 0 hs[k].id Typ.zero es [],{ms es.length with temp:=(ms es.length).temp+1,left:=(ms es.length).left-1},?_,q1▸ha.trans (yR _),.record _ _ k h es h2 (by rw[←eslots,q1]) fun j hj=>?_,
  by simp only[tmps]; rw[q1]; exact q4.append (Seg.one _) ha.temp1 (by omega),zCv (zHo rfl fun j hj=>(q5 j hj (by rw[List.length_map]; omega)).2.2)⟩
 ·rw[←eid]at hdv ⊢;refine zJ Tryz.func79 rfl zSX (rs:=[.cell 10 15 true]) (by kernel_rfl) ?_;unfold zQy;simp[mkS,mkB,zB];refine⟨_,_,zAa 1,?_⟩;simp[mkS,mkB,zB,List.replicate];refine zRr (zOb m.mods m.defs D.id (by omega)) [1] (by decide) (by simp[zKN]) (by simp[zKN]) (by simp[qL]) (fun τ hτ=>by
   have:=zJ9 hτ (j:=1) (o:=.row false 39 31 m.defs.length (zY m.defs)) (by simp) (by simp)
   simpa [zKN] using this) ?_
  rw[hdv];simp[mkS,mkB,zP,ekind];refine qP (S:=Nat) (fun i=>[(0,.ptr 0 0),(2,.sl env.length (zS env)),(4,int depth),(6,.ptr 2 0),(10,.ptr 3 0),(15,.ptr 4 0),(20,.row 5 i),(21,int i)])
   (fun i=>mkS (ms i)++[.box (zB (zA9 D.id)),.box (zH Exp.zero),.box (zP D),.row false 37 15 i (qR (es.take i))]) (fun i=>i≤es.length) (fun i=>es.length-i) 0 (by simp)
   ((jZ (t:=20) (by simp) 37 15).trans (zV [0,1,2,3,4,5] 0 (by decide) (by simp) (by simp[mkS,mkB,zB,zA9,q2,zH,Exp.zero,Id.zero,Typ.zero,zP,ekind]) (by simp))) ?_
  intro i hi;have hms:=q3 i (by omega);by_cases hi2:i<es.length
  ·have hid:i<D.slots.length:=by omega
   obtain⟨g1,_,_⟩:=q5 i hi2 (by rw[List.length_map]; omega);rw[List.getElem_map]at g1;have hst:qR (es.take (i+1))=qR (es.take i)++zH es[i]:=zAs hi2;have hw:IntKind.i64.wrap ((i:Int)+1)=(i:Int)+1:=IntWalk.i64_in _ (by omega);have hdS:List.drop (i*11+4) (yA D.slots)=(yZ D.slots[i]++yA (D.slots.drop (i+1))).drop 4:=by rw[←List.drop_drop,qZ hid]
   have hbS:i*11+4+5≤D.slots.length*11:=by omega
   simp[mkS,mkB,zP,hid,hdS,hbS,yZ,wd];intro _;refine zM g1 [0,1] (by decide) (by simp[mkS,mkB]) (by simp[zB]) ?_;simp[mkS,mkB];refine⟨⟨by simp[maxLen]; omega,by omega⟩,?_⟩;exact zW (i+1) hi2 (by omega) (zV [0,1,2,3,4,5] 0 (by decide) (by simp) (by simp[mkS,mkB,zB,zA9,zH,Exp.zero,Id.zero,Typ.zero,hst,zP]) (by simp[hw]))
  ·have hie:i=es.length:=by omega
   subst hie;have hid:¬es.length<D.slots.length:=by omega
   rw[←q1]at l3 l4 l5 l6;simp[mkS,mkB,zP,hid];intro _;refine⟨jB [(0,.ptr 0 0),(10,.ptr 3 0),(15,.ptr 4 0),(20,.sl es.length (qR es))],mkS (ms es.length)++[.box (zB (zA9 D.id)),.box (zH Exp.zero),.box (zP D)],zV [0,1,2,3,4] 1 (by decide) (by simp) (by simp[mkS,mkB,zB,zA9,zH,Exp.zero,Id.zero,Typ.zero,zP]) (by simp),?_⟩;simp[mkS,mkB];refine zM (yH (ms es.length) 7 0 es l3 (by omega) (by omega) l6) [0,1] (by decide) (by simp[mkS,mkB]) (by simp) ?_;simp[mkS,mkB,zH,zP];exact zF [0,1] 0 (by decide) (by simp) (by simp) (by simp[zH])
 ·have:=(q5 j hj (by rw[List.length_map]; omega)).2.1;rw[List.getElem_map]at this
  simpa only[eslots] using this
theorem zUZ {hs:List Hd}{R:Nat}{m:Mk}{env:List Bnd}{c depth:Int}{Q:Nat→Prop}{len:Nat}(hc:0≤c)(hl:Lim m (6*c+1))(x:Int)(hx0:0≤x)(hx1:x≤65536)(t:Typ){r:Nat}(hr:TyOk hs r t)(hQ:∀r'<r,Q r')
 (hk:zBg hs R c (depth-1) Q len)(hx:Cx hs R m)(he:EnvOk hs R m.temp env)(h5:0<env.length)(h6:env.length≤len)(hd1 : -1000≤depth)(hd2:depth≤1000) :
 zAB hs m.own zM9 m [.ptr 0 0,.agg (zB t),.sl env.length (zS env),int x,int depth] env t (6*c+1):=by
 cases hr with
 | int r=>exact(zXx (R:=R) (hl.mono (by omega)) x depth hx0 hx1).mono (by omega)
 | bool r=>exact(zVu (hl.mono (by omega)) x depth hx0).mono (by omega)
 | list r t h=>exact(zTS hc (hl.mono (by omega)) x hx0 t h (hQ r (by omega)) hk hx he h5 h6 hd1 hd2).mono (by omega)
 | dfn r k h h1 h2 h3 h4 =>
  rcases h2 with h2 | ⟨h2,h2'⟩
  ·exact zX7 hc hl x k h h1 h2 h3 h4 (hQ r (by omega)) hk hx he h5 h6 hd1 hd2
  ·exact(zUx hc (hl.mono (by omega)) x hx0 hx1 k h h1 h2 h2' h3 h4 (hQ r (by omega)) hk hx he h5 h6 hd1 hd2).mono (by omega)
def qFI:K:=G [kO 3 0,kO 4 1,kO 5 2,kMb 6 false] (Z (G [J 11 3 2,J 12 4 5,kC 13 157 [(kt 11),(kt 12)],kR 14 13] (Y 14 (G [kMb 6 false] kr) ks)) (Z (G [D 15 4 0,L 16 15 1,kQi 17 16 0 false] (Y 17 (G [D 18 5 0,L 19 18 1,kQi 20 19 0 false,M 21 20,T 21 true (D 22 5 2),T 21 true (L 23 22 1),T 21 true (kN 24 23),T 21 true (kQi 25 24 0 false),kPf 26 21 25,M 27 26,T 27 true (D 28 5 1),T 27 true (L 29 28 1),⟨some (27,true),.bin (some 30) .geq (kt 29) (kc (-1099511627776))⟩,kPf 31 27 30,M 32 31,T 32 true (D 33 5 1),T 32 true (L 34 33 1),T 32 true (kBi 35 34 1099511627776 .leq),kPf 36 32 35,M 6 36] kr) ks)) (Z (G [D 37 4 0,L 38 37 1,kQi 39 38 1 false] (Y 39 (G [D 40 5 0,L 41 40 1,kQi 42 41 1 false,M 43 42,T 43 true (D 44 5 2),T 43 true (L 45 44 1),T 43 true (kN 46 45),T 43 true (kQi 47 46 0 false),kPf 48 43 47,M 49 48,T 49 true (D 50 5 1),T 49 true (L 51 50 1),T 49 true (kQi 52 51 0 false),T 49 true (M 53 52),T 53 false (D 54 5 1),T 53 false (L 55 54 1),T 53 false (kQi 56 55 1 false),T 49 true (kPt 57 53 56),kPf 58 49 57,M 6 58] kr) ks)) (Z (G [D 59 4 0,L 60 59 1,kQi 61 60 2 false] (Y 61 (Z (G [kMi 7 0] (K.block 0 (K.loop (Z (G [M 62 7,D 63 5 2,L 64 63 1,kN 65 64,kB 66 62 65 .lss] (Y 66 ks (K.exit 0))) (Z (K.block 1 (Z (K.dops [(0,0,J 69 3 2),(1,0,D 70 4 4),(2,0,L 71 70 1),(3,0,kXi 72 71 5 0),(4,0,J 73 72 5),(5,0,D 74 5 2),(6,0,L 75 74 1),(7,0,M 76 7),(8,0,kX 77 75 76 3),(9,0,
 J 78 77 3),(10,0,kC 79 136 [(kt 69),(kt 73),(kt 78)]),(11,0,kR 80 79)]) (Y 80 (G [kMb 6 false] kr) ks))) (K.ops [M 67 7,kBi 68 67 1 .add,M 7 68])))))) (G [D 81 5 0,L 82 81 1,kQi 83 82 4 false,M 84 83,T 84 true (D 85 5 1),T 84 true (L 86 85 1),T 84 true (kQi 87 86 0 false),kPf 88 84 87,M 6 88] kr)) ks)) (G [J 90 3 2,D 91 4 1,J 92 91 3,kC 93 26 [(kt 90),(kt 92)],M 89 93,kE 94 89 0,kE 95 89 1,kZ 8 kz0,S 8 94 31,M 9 95] (Z (G [D 96 8 3,L 97 96 1,kQi 98 97 1 false] (Y 98 (Z (G [D 99 5 0,L 100 99 1,kQi 101 100 3 true,M 102 101,T 102 false (D 103 5 1),T 102 false (L 104 103 1),T 102 false (kBi 105 104 0 .lss),kPt 106 102 105,M 107 106,T 107 false (D 108 5 1),T 107 false (L 109 108 1),T 107 false (D 110 8 8),T 107 false (L 111 110 1),T 107 false (kN 112 111),T 107 false (kB 113 109 112 .geq),kPt 114 107 113,M 115 114,T 115 false (D 116 5 2),T 115 false (L 117 116 1),T 115 false (kN 118 117),T 115 false (kQi 119 118 1 true),kPt 120 115 119] (Y 120 (G [kMb 6 false] kr) ks)) (Z (K.dops [(0,0,J 121 3 2),(1,0,D 122 8 8),(2,0,L 123 122 1),(3,0,D 124 5 1),(4,0,L 125 124 1),(5,0,kX 126 123 125 11),(6,0,D 127 126 4),(7,0,J 128 127 5),(8,0,D 129 5 2),(9,0,L 130 129 1),(10,0,kXi 131 130 3 0),(11,0,J 132 131 3),(12,0,kC 133 136 [(kt 121),(kt 128),(kt 132)]),(13,0,M 6 133)]) kr)) ks)) (Z (G [D 134 5 0,L 135 134 1,kQi 136 135 2 true,M 137 136,T 137 false (D 138 5 1),T 137 false (L 139 138 1),T 137 false (kQi 140 139 0 true),kPt 141 137 140,M 142 141,T 142 false (D 143 5 2),
 T 142 false (L 144 143 1),T 142 false (kN 145 144),T 142 false (D 146 8 8),T 142 false (L 147 146 1),T 142 false (kN 148 147),T 142 false (kQ 149 145 148 true),kPt 150 142 149] (Y 150 (G [kMb 6 false] kr) ks)) (Z (G [kMi 10 0] (K.block 2 (K.loop (Z (G [M 151 10,D 152 5 2,L 153 152 1,kN 154 153,kB 155 151 154 .lss] (Y 155 ks (K.exit 2))) (Z (K.block 3 (Z (K.dops [(0,0,J 158 3 2),(1,0,D 159 8 8),(2,0,L 160 159 1),(3,0,M 161 10),(4,0,kX 162 160 161 11),(5,0,D 163 162 4),(6,0,J 164 163 5),(7,0,D 165 5 2),(8,0,L 166 165 1),(9,0,M 167 10),(10,0,kX 168 166 167 3),(11,0,J 169 168 3),(12,0,kC 170 136 [(kt 158),(kt 164),(kt 169)]),(13,0,kR 171 170)]) (Y 171 (G [kMb 6 false] kr) ks))) (K.ops [M 156 10,kBi 157 156 1 .add,M 10 157])))))) (G [kMb 6 true] kr)))))))))
theorem qOb:zN Tryz.prog Tryz.f136.ntmps (Tryz.f136.body.getD .skip)=some qFI.erase:=by kernel_rfl
@[simp] theorem qLT:zC Tryz.prog 136=true:=by kernel_rfl
def qGn:K:=G [kO 3 0,kO 4 1,kO 5 2,kMb 6 false] (G [J 7 5 3,kC 8 121 [(kt 7)],kBi 9 8 256 .leq,M 10 9,T 10 true (J 11 5 3),T 10 true (kC 12 122 [(kt 11)]),T 10 true (kBi 13 12 24 .leq),kPf 14 10 13,M 15 14,T 15 true (J 16 3 2),T 15 true (J 17 4 5),T 15 true (J 18 5 3),T 15 true (kC 19 136 [(kt 16),(kt 17),(kt 18)]),kPf 20 15 19,M 6 20] kr)
theorem qMs:zN Tryz.prog Tryz.f98.ntmps (Tryz.f98.body.getD .skip)=some qGn.erase:=by kernel_rfl
@[simp] theorem qLZ:zC Tryz.prog 98=true:=by kernel_rfl
set_option maxHeartbeats 1000000 in
theorem zHm (p:Prg)(hL:p.defs.length≤1000000)(t:Typ)(v:Val):Ret Tryz.prog 136 [.agg (zQ p),.agg (zB t),.agg (zI v)] [] (bl (zAy p t v)) []:=by
 refine zK Tryz.func136 rfl qOb (rs:=[.slot 6]) (by kernel_rfl) ?_;unfold qFI;simp[zQ,zB,zI];refine zR (zIV p hL t) (by simp[zQ,zB]) (by simp) ?_;cases hv:validT p t with
 | false =>
  simp;exact zA 0 (by simp[zN5 hv])
 | true =>
 by_cases h0:t.k=0
 ·have e:zAy p t v=(decide (v.k=0)&&decide (v.kids.length=0)&&decide (-1099511627776≤v.n)&&decide (v.n≤1099511627776)):=by rw[zBb,hv,if_pos h0,Bool.true_and]
  by_cases c1:v.k=0
  ·by_cases c2:v.kids.length=0
   ·by_cases c3 : -1099511627776≤v.n
    ·simp[hv,h0,c1,c2,c3];exact zA 0 (by rw[e]; simp[c1,c2,c3])
    ·simp[hv,h0,c1,c2,c3];exact zA 0 (by rw[e]; simp[c1,c2,c3])
   ·simp[hv,h0,c1,c2];exact fun _=>zA 0 (by rw[e]; simp[c1,c2])
  ·simp[hv,h0,c1];exact zA 0 (by rw[e]; simp[c1])
 by_cases h1:t.k=1
 ·have e:zAy p t v=(decide (v.k=1)&&decide (v.kids.length=0)&&(decide (v.n=0)||decide (v.n=1))):=by rw[zBb,hv,if_neg h0,if_pos h1,Bool.true_and]
  by_cases c1:v.k=1
  ·by_cases c2:v.kids.length=0
   ·by_cases c3:v.n=0
    ·simp[hv,h1,c1,c2,c3];exact zA 0 (by rw[e]; simp[c1,c2,c3])
    ·simp[hv,h1,c1,c2,c3];exact zA 0 (by rw[e]; simp[c1,c2,c3])
   ·simp[hv,h1,c1,c2];exact fun _=>zA 0 (by rw[e]; simp[c1,c2])
  ·simp[hv,h1,c1];exact zA 0 (by rw[e]; simp[c1])
 by_cases h2:t.k=2
 ·obtain⟨x,hx⟩:=zJX hv h2;have e:zAy p t v=(decide (v.k=4)&&decide (v.n=0)&&v.kids.all (zAy p x)):=by rw[zBb,hv,if_neg h0,if_neg h1,if_pos h2,Bool.true_and,hx]; rfl
  simp[hv,h2,hx];refine qP (S:=Nat) (fun i=>[(3,.ptr 0 0),(4,.ptr 1 0),(5,.ptr 2 0),(7,int i)])
   (fun i=>[.box (zQ p),.box (zB t),.box (zI v)]) (fun i=>i≤v.kids.length∧v.kids.all (zAy p x)=(v.kids.drop i).all (zAy p x)) (fun i=>v.kids.length-i) 0 (by simp)
   (zV [0,1,2] 0 (by decide) (by simp) (by simp[zQ,zB,zI,h2,hx]) (by simp)) ?_
  rintro i ⟨hi,ho⟩;by_cases hil:i<v.kids.length
  ·have d1:v.kids.drop i=v.kids[i]::v.kids.drop (i+1):=List.drop_eq_getElem_cons hil;simp[hil,qY hil,zQ,zB,zI,hx,qM];intro hl;refine qI (zHm p hL x v.kids[i]) (by simp[zQ,zB,zI]) (by simp) ?_;cases hf:zAy p x v.kids[i]with
   | true =>
    simp;exact zW (i+1) ⟨hil,by rw[ho,d1,List.all_cons,hf,Bool.true_and]⟩ (by omega) (zV [0,1,2] 0 (by decide) (by simp) (by simp[zQ,zB,zI,hx,qM]) (by simp[qH hil hl]))
   | false =>
    simp;exact zA 0 (by rw[e,ho,d1,List.all_cons,hf]; simp)
  ·have:i=v.kids.length:=by omega
   subst this;rw[List.drop_eq_nil_of_le (Nat.le_refl v.kids.length)]at ho;by_cases c1:v.k=4
   ·simp[zQ,zB,zI,c1];exact fun _=>zA 0 (by rw[e,ho]; simp[c1])
   ·simp[zQ,zB,zI,c1];exact fun _=>zA 0 (by rw[e,ho]; simp[c1])
 have e:=zBb p t v;rw[hv,if_neg h0,if_neg h1,if_neg h2,Bool.true_and]at e;simp[hv,h0,h1,h2];refine zR (zB0 p hL t.id) (by simp[zQ,qL]) (by simp[zAh]) ?_;have hD:(yL p.defs t.id).getD .zero=dfn p t.id:=rfl;generalize dfn p t.id=D at hD e;by_cases hk:D.kind=1
 ·rw[if_pos hk]at e;by_cases c1:v.k=3
  ·by_cases c2:0≤v.n
   ·by_cases c3:v.n<D.slots.length
    ·by_cases c4:v.kids.length=1
     ·obtain⟨x,hx⟩:∃x,v.kids=[x]:=List.length_eq_one_iff.1 c4;obtain⟨i,hi⟩:∃i:Nat,v.n=i:=⟨v.n.toNat,by omega⟩;have hil:i<D.slots.length:=by omega
      have hil':¬D.slots.length≤i:=by omega
      have hi0:¬((i:Int)<0):=by omega
      simp[zAh,hD,zP,hk,c1,hi,hi0,hil,hil',hx,qZ hil,yZ];intro _ _;refine qI (zHm p hL D.slots[i].typ x) (by simp[zQ,zB,zI]) (by simp) ?_;simp;exact zA 0 (by rw[e]; simp[c1,hi,hil,hx,zOa])
     ·have c4':¬(v.kids.length:Int)=1:=by omega
      have c3':¬(D.slots.length:Int)≤v.n:=by omega
      have c2':¬v.n<0:=by omega
      simp[zAh,hD,zP,hk,c1,c2',c3',c4']
      first | exact zA 0 (by rw[e]; simp[c1,c2,c3,c4]) | exact fun _=>zA 0 (by rw[e]; simp[c1,c2,c3,c4]) | exact fun _ _=>zA 0 (by rw[e]; simp[c1,c2,c3,c4])
    ·have c3':(D.slots.length:Int)≤v.n:=by omega
     have c2':¬v.n<0:=by omega
     simp[zAh,hD,zP,hk,c1,c2',c3']
     first | exact zA 0 (by rw[e]; simp[c1,c2,c3]) | exact fun _=>zA 0 (by rw[e]; simp[c1,c2,c3])
   ·have c2':v.n<0:=by omega
    simp[zAh,hD,zP,hk,c1,c2'];exact zA 0 (by rw[e]; simp[c1,c2])
  ·simp[zAh,hD,zP,hk,c1];exact zA 0 (by rw[e]; simp[c1])
 rw[if_neg hk]at e;by_cases c1:v.k=2
 ·by_cases c2:v.n=0
  ·by_cases c3:v.kids.length=D.slots.length
   ·simp[zAh,hD,zP,hk,c1,c2,c3];intro hl;refine qP (S:=Nat) (fun i=>[(3,.ptr 0 0),(5,.ptr 2 0),(8,.ptr 3 0),(10,int i)])
     (fun i=>[.box (zQ p),.box (zB t),.box (zI v),.box (zP D)]) (fun i=>i≤v.kids.length∧zBf p (D.slots.map Slt.typ) v.kids=zBf p ((D.slots.map Slt.typ).drop i) (v.kids.drop i)) (fun i=>v.kids.length-i) 0 (by simp)
     (zV [0,1,2,3] 0 (by decide) (by simp) (by simp[zQ,zB,zI,zP,hk,c1,c2,c3]) (by simp)) ?_
    rintro i ⟨hi,ho⟩;by_cases hil:i<v.kids.length
    ·have hiD:i<D.slots.length:=by omega
     have d1:v.kids.drop i=v.kids[i]::v.kids.drop (i+1):=List.drop_eq_getElem_cons hil;have d2:(D.slots.map Slt.typ).drop i=D.slots[i].typ::(D.slots.map Slt.typ).drop (i+1):=by rw[List.drop_eq_getElem_cons (by simpa using hiD)]; simp
     simp[hil,hiD,qY hil,qZ hiD,zQ,zP,yZ,zI];intro _;refine qI (zHm p hL D.slots[i].typ v.kids[i]) (by simp[zQ,zB,zI]) (by simp) ?_;cases hf:zAy p D.slots[i].typ v.kids[i]with
     | true =>
      simp;exact zW (i+1) ⟨hil,by rw[ho,d1,d2]; simp[zBf,hf]⟩ (by omega) (zV [0,1,2,3] 0 (by decide) (by simp) (by simp[zQ,zB,zI,zP]) (by simp[qH hil (c3▸hl)]))
     | false =>
      simp;exact zA 0 (by rw[e,ho,d1,d2]; simp[zBf,hf])
    ·have:i=v.kids.length:=by omega
     subst this;simp[zQ,zI]
     first | exact zA 0 (by rw[e,ho,List.drop_eq_nil_of_le (Nat.le_refl v.kids.length),zHS]; simp[c1,c2,c3]) | exact fun _=>zA 0 (by rw[e,ho,List.drop_eq_nil_of_le (Nat.le_refl v.kids.length),zHS]; simp[c1,c2,c3])
   ·have c3':¬(v.kids.length:Int)=D.slots.length:=by omega
    simp[zAh,hD,zP,hk,c1,c2,c3']
    first | exact zA 0 (by rw[e]; simp[c1,c2,c3]) | exact fun _=>zA 0 (by rw[e]; simp[c1,c2,c3]) | exact fun _ _=>zA 0 (by rw[e]; simp[c1,c2,c3])
  ·simp[zAh,hD,zP,hk,c1,c2];exact zA 0 (by rw[e]; simp[c1,c2])
 ·simp[zAh,hD,zP,hk,c1];exact zA 0 (by rw[e]; simp[c1])
termination_by qE v
decreasing_by
 ·exact zAj (List.getElem_mem _)
 ·exact zAj (by simp[hx])
 ·exact zAj (List.getElem_mem _)
end Go.Proofs.YthglhccibdlccaaGreatDoor
