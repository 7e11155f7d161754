/-
  convert.reaches: a search that goes breadth first.
  convert.paths: the recursive closure that visits.
  convert.paths and Paths.
  spliceryref17's lists of IDs; the reference's Converters.
  convert.Field: what an expression reads of a slot.
-/
import Derived.Test.YtdnelmeboihpkaaGreatDoorX17
import Derived.Test.YtdnelmeboihpkaaGreatDoorX12
import Derived.Test.YtdnelmeboihpkaaGreatDoorX15
set_option linter.unusedVariables false
set_option maxHeartbeats 8000000
set_option maxRecDepth 100000
set_option linter.unusedSimpArgs false
open Go.Proofs.Tryz (prog)
namespace Go.Proofs.YtdnelmeboihpkaaGreatDoor
open Go.Abs
def mrk (l:List Id):List (List Int×A):=l.map fun x=>(zHd x,.lit (.bool true))
theorem zK5 {x y:Id}:zHd x=zHd y↔x=y:=by simp[zHd,Id.eq_iff]
theorem zLM (x:Id):∀l:List Id,zB4 (zHd x) (mrk l)=if x∈l then some (.lit (.bool true)) else none
 | []=>rfl
 | y::l=>by
  have ih:=zLM x l;simp only[mrk,jA9,zB4]at ih ⊢;by_cases h:y=x
  ·subst h; simp
  ·rw[if_neg fun e=>h (zK5.1 e),ih];simp[Ne.symm h]
theorem zKJ (x:Id):∀l:List Id,x∉l→putI (zHd x) (.lit (.bool true)) (mrk l)=mrk (l++[x])
 | [],_=>rfl
 | y::l,h=>by simp only[jA7,not_or]at h;have ih:=zKJ x l h.2;simp only[mrk,jA9,putI,jB0]at ih ⊢;rw[if_neg fun e=>h.1 (zK5.1 e).symm,ih]
theorem zOi (x:Id):∀l:List Id,x∉l→zIu (zHd x) (mrk (l++[x]))=mrk l
 | [],_=>by simp[mrk,zIu]
 | y::l,h=>by simp only[jA7,not_or]at h;have ih:=zOi x l h.2;simp only[mrk,jA9,zIu,jB0]at ih ⊢;rw[if_neg fun e=>h.1 (zK5.1 e).symm,ih]
theorem zKp (x:Id)(l:List Id):zEK (Value.bool false) false (zB4 [x.a,x.b,x.c] (mrk l))=.lit (.bool (decide (x∈l))):=by have hf:=zLM x l;simp only[zHd]at hf;rw[hf];by_cases h:x∈l<;>simp[zEK,h,zET,qS]
@[simp] theorem qNR {rf g}(l:List Id):(mrk l).map (fun p=>(p.1,vw rf g p.2))=mrk l:=by unfold mrk;rw[jC5];exact jBp fun x _=>by simp
theorem zJB {marked:List Id}{x:Id}:∀(l:List Edg) (M:List Id),(zDM marked x l M).length≤M.length+l.length
 | [],M=>by simp[zDM]
 | e::l,M=>by
  simp only[zDM,jAl];split
  ·have:=zJB (marked:=marked) (x:=x) l (M++[e.to]);simp only[jA5,jC0]at this;omega
  ·have:=zJB (marked:=marked) (x:=x) l M;omega
def zYm:K:=G [kO 5 1,kO 6 2,kMb 8 false] (G [⟨none,.mop (some 14) (.mk 3) []⟩,J 15 5 3,⟨none,.mop none (.set 3) [(kt 14),(kt 15),(.const (.bool true))]⟩,M 16 14,M 9 16] (G [J 17 5 3,⟨none,.brow (some 18) 31 3 1 [ki,ki,ki] [(0,3,(kt 17))]⟩,M 10 18] (Z (K.block 0 (K.loop (Z (G [M 19 10,kN 20 19,kBi 21 20 0 .gtr] (Y 21 ks (K.exit 0))) (K.block 1 (G [M 22 10,kXi 23 22 3 0,J 24 23 3,kZ 11 [ki,ki,ki],S 11 24 3] (G [M 25 10,⟨none,.rslc (some 26) (kt 25) 3 (some (kc 1)) none⟩,M 10 26] (Z (G [J 27 11 3,J 28 6 3,⟨none,.eqs (some 29) false [.i,.i,.i] (kt 27) (kt 28)⟩] (Y 29 (G [kMb 8 true] kr) ks)) (G [M 30 0,kN 31 30,kMi 32 0] (K.block 2 (K.loop (G [kB 33 32 31 .lss] (Z (Y 33 ks (K.exit 2)) (Z (K.block 3 (G [kX 34 30 32 9,J 35 34 9,kZ 13 [ki,ki,ki,ki,ki,ki,ki,ki,ki],S 13 35 9] (G [D 36 13 3,J 37 36 3,J 38 11 3,⟨none,.eqs (some 39) false [.i,.i,.i] (kt 37) (kt 38)⟩,M 40 39,T 40 true (M 41 9),T 40 true (D 42 13 6),T 40 true (J 43 42 3),⟨some (40,true),.mop (some 44) (.get 3 (.bool false) false) [(kt 41),(kt 43)]⟩,T 40 true (kR 45 44),kPf 46 40 45,M 47 46,T 47 true (M 48 3),T 47 true (D 49 13 6),T 47 true (J 50 49 3),⟨some (47,true),.mop (some 51) (.get 3 (.bool false) false) [(kt 48),(kt 50)]⟩,T 47 true (kR 52 51),kPf 53 47 52] (Y 53 (G [M 54 9,D 55 13 6,J 56 55 3,⟨none,.mop none (.set 3) [(kt 54),(kt 56),(.const (.bool true))]⟩] (K.ops [M 57 10,D 58 13 6,J 59 58 3,kd 60 31 3 1 [ki,ki,ki] [(0,3,(kt 59))],⟨none,.apq (some 61) 31 3 24 (kt 57) (kt 60)⟩,M 10 61])) ks)))) (K.ops [kBi 62 32 1 .add,
 M 32 62])))))))))))))) (G [kMb 8 false] kr))))
theorem qFK:zR prog Tryz.f101.ntmps (Tryz.f101.body.getD .skip)=some zYm.erase:=by kernel_rfl
@[simp] theorem qJy:zA prog 101=true:=by kernel_rfl
open Classical in
theorem zQQ (L:List Edg)(hL:L.length≤1000)(fro to:Id)(marked:List Id)(fr:Bool) :
 Ret prog 101 [.sl L.length (yF L),.agg (zC fro),.agg (zC to),.map 0] [.mp fr 3 (mrk marked)] (bl (decide (Rchs L to marked fro))) [.mp fr 3 (mrk marked)]:=by
 refine zI Tryz.func101 rfl qFK (rs:=[.slot 8]) (by kernel_rfl) ?_;unfold zYm;have hm1:putI [fro.a,fro.b,fro.c] (.lit (.bool true)) []=mrk [fro]:=rfl;simp -implicitDefEqProofs [zC,hm1];refine jM (S:=List Id×List Id×List Id) (fun s=>[(0,.sl L.length (yF L)),(3,.map 0),(5,.ptr 1 0),(6,.ptr 2 0),(8,bl false),(9,.map 3),(10,.win 4 (s.1.length+s.2.2.length) (s.1.length*3) s.2.2.length 3)])
  (fun s=>[.mp fr 3 (mrk marked),.box (zC fro),.box (zC to),.mp true 3 (mrk (s.2.1++s.2.2)),.row false 31 3 (s.1.length+s.2.2.length) (zL (s.1++s.2.2))])
  (fun s=>Bfs L to marked fro (s.2.1++s.2.2) s.2.1.length∧s.1.length≤s.2.1.length) (fun s=>L.length+1-s.2.1.length) ([],[],[fro]) ⟨Bfs.start L to marked fro,by simp⟩ ?_ ?_
 ·refine(zWq (t:=10) (l:=4) (m:=1) (sz:=3) (by simp) rfl).trans (zO [0,1,2,3,4] 0 (by decide) (by simp) (by simp[zC]) (by simp))
 rintro⟨junk,dn,live⟩ ⟨hb,hj⟩;simp only at hb hj;have hM:=hb.len;rw[jA5]at hM
 match hlive:live with
 | [] =>
  have hno:=hb.no (by simp);simp -implicitDefEqProofs;exact zH [0] 0 (by simp) (by simp) (by simp) (by simp[hno])
 | x::rest =>
  have hpos:(0:Int)<(rest.length:Int)+1:=by omega
  have hlt:junk.length*3+3≤(junk.length+(rest.length+1))*3:=by omega
  have hk:dn.length<(dn++x::rest).length:=by simp
  have hx:(dn++x::rest)[dn.length]=x:=by simp
  have hdr:(zL (junk++x::rest)).drop (junk.length*3)=zC x++zL rest:=by rw[zE5,List.drop_left,zCG]; rfl
  simp only[jAl]at hM;by_cases hto:x=to
  ·have hyes:=hb.yes hk (hx.trans hto);subst hto;simp -implicitDefEqProofs [hpos,hdr,zC,hlt];exact⟨by omega,zH [0] 0 (by simp) (by simp) (by simp) (by simp[hyes])⟩
  ·have hnx:=hb.next hk (by rw[hx]; exact hto);rw[hx]at hnx;simp -implicitDefEqProofs [hpos,hdr,zC,hlt,hto];refine⟨by omega,fun _=>?_⟩;have hsh:junk.length+1+rest.length=junk.length+(rest.length+1):=by omega
   refine jM (S:=Nat×List Id×List Id) (fun s=>[(0,.sl L.length (yF L)),(3,.map 0),(5,.ptr 1 0),(6,.ptr 2 0),(8,bl false),(9,.map 3),(10,.win 4 (s.2.1.length+s.2.2.length) (s.2.1.length*3) s.2.2.length 3),(11,.ptr 5 0),(30,.sl L.length (yF L)),(31,int L.length),(32,int s.1)])
    (fun s=>[.mp fr 3 (mrk marked),.box (zC fro),.box (zC to),.mp true 3 (mrk (dn++x::s.2.2)),.row false 31 3 (s.2.1.length+s.2.2.length) (zL (s.2.1++s.2.2)),.box (zC x)])
    (fun s=>s.1≤L.length∧zDM marked x (L.take s.1) (dn++x::rest)=dn++x::s.2.2∧s.2.1.length≤dn.length+1) (fun s=>L.length-s.1) (0,junk++[x],rest) ⟨by simp,by simp[zDM],by simp; omega⟩
    (zO [0,1,2,3,4,5] 0 (by decide) (by simp) (by simp[zC,hsh]) (by simp[jAt,hsh])) ?_
   rintro⟨j,jk,lv⟩ ⟨hjl,hN,hjk⟩;simp only at hjl hN hjk;have hlen:=zJB (marked:=marked) (x:=x) (L.take j) (dn++x::rest);rw[hN]at hlen;simp only[jA5,jAl,jB2]at hlen;by_cases h:j<L.length
   ·have hw:=zA0 j (by omega);have hsn:=zL0 marked x L[j] (L.take j) (dn++x::rest);rw[←jAa h,hN]at hsn;have hg1:=zKp L[j].to (dn++x::lv);have hg2:=zKp L[j].to marked;have hput:=zKJ L[j].to (dn++x::lv);have hMj:dn++x::(lv++[L[j].to])=dn++x::lv++[L[j].to]:=by simp
    have hcs:zL (lv++[L[j].to])=zL lv++zC L[j].to:=by rw[zAi]; rfl
    have hdl:(zL (jk++lv)).drop (jk.length*3)=zL lv:=by rw[zE5,List.drop_left]
    simp only[zHd]at hput;generalize hM0:dn++x::lv=Mj at *
    by_cases c1:L[j].fro=x
    ·by_cases c2:L[j].to∈Mj
     ·rw[if_neg (by simp[c2])]at hsn;simp -implicitDefEqProofs [h,zBk h,zAZ,zC,c1,hg1,c2];exact zP (j+1,jk,lv) ⟨h,by rw[hsn,hM0],hjk⟩ (by simp only; omega) (zO [0,1,2,3,4,5] 0 (by decide) (by simp) (by simp[zC,hM0]) (by simp[hw]))
     ·by_cases c3:L[j].to∈marked
      ·rw[if_neg (by simp[c3])]at hsn;simp -implicitDefEqProofs [h,zBk h,zAZ,zC,c1,hg1,c2,hg2,c3];exact zP (j+1,jk,lv) ⟨h,by rw[hsn,hM0],hjk⟩ (by simp only; omega) (zO [0,1,2,3,4,5] 0 (by decide) (by simp) (by simp[zC,hM0]) (by simp[hw]))
      ·rw[if_pos ⟨c1,c2,c3⟩]at hsn;simp -implicitDefEqProofs [h,zBk h,zAZ,zC,c1,hg1,c2,hg2,c3,hput c2];refine⟨?_,?_,?_⟩
       ·exact⟨rfl,by omega,rfl,rfl,rfl,rfl,by omega,by simp[maxLen]; omega,by omega⟩
       ·exact zP (j+1,jk,lv++[L[j].to]) ⟨h,by rw[hsn,hMj],hjk⟩ (by simp only; omega) (zO [0,1,2,3,4,5] 0 (by decide) (by simp) (by simp[zC,hMj,zAi,jBg]) (by simp[hw,jBg]))
       ·exact zP (j+1,[],lv++[L[j].to]) ⟨h,by rw[hsn,hMj],by simp⟩ (by simp only; omega) (zO [0,1,2,3,7,5] 0 (by decide) (by simp) (by simp[zC,hMj,hdl,zAi]) (by simp[hw]))
    ·rw[if_neg (by simp[c1])]at hsn;simp -implicitDefEqProofs [h,zBk h,zAZ,zC,c1];exact zP (j+1,jk,lv) ⟨h,by rw[hsn,hM0],hjk⟩ (by simp only; omega) (zO [0,1,2,3,4,5] 0 (by decide) (by simp) (by simp[zC,hM0]) (by simp[hw]))
   ·have hjl':j=L.length:=by omega
    subst hjl';rw[jAv]at hN;rw[hN]at hnx;simp -implicitDefEqProofs;exact zP (jk,dn++[x],lv) ⟨by simpa using hnx,by simpa using hjk⟩ (by simp only[jA5,jC0]; omega) (zO [0,1,2,3,4] 0 (by decide) (by simp) (by simp[zC]) (by simp))
end Go.Proofs.YtdnelmeboihpkaaGreatDoor
namespace Go.Abs
section
variable {P:Program}{env:Env}{d:Option Nat} {σ : St}
theorem zR0 {K:Env→St→Prop}{f:FuncId}{args args':List A}{r:A}{s0 s1:St}(h:Ret P f args s0 r (s0++s1))(js:List Nat)(hjs:js.Nodup)(hlen:s0.length=js.length)(ho:yR σ jN (qA js) js s0)(ha:zBg js args' args)
 (hput:qN σ js (s0.map (zAQ js σ.length)) = σ)(hq:K (env.put d (ren js σ.length r)) (σ++s1.map (zAQ js σ.length))):zIg P σ d K f args' env :=
 ⟨_,_,zAj.append _ _,zA7 h js hjs ho ha ⟨rfl,by
  have:=zHj (js:=js) (ks:=[]) (s:=σ) (a:=s0.map (zAQ js σ.length)) (b:=s1.map (zAQ js σ.length)) (by simpa using hlen);rw[jCd,hput]at this;rw[jCs,this,qN]⟩,hq⟩
end
end Go.Abs
namespace Go.Proofs.YtdnelmeboihpkaaGreatDoor
open Go.Abs
theorem zOf (l:List Id)(h:l≠[])(hb:l.length≤1000000):Ret prog 100 [.row 0 l.length] [.row false 31 3 l.length (zL l)] (.row 1 l.length) ([.row false 31 3 l.length (zL l)]++[.row false 31 3 l.length (zL l)]):=by
 refine zI Tryz.func100 rfl zUn (rs:=[.slot 2]) (by kernel_rfl) ?_;unfold zPG;have h0:l.length≠0:=by simpa using h
 simp -implicitDefEqProofs [h,h0,zTe];refine⟨⟨by simp[maxLen]; omega,by omega⟩,?_⟩;exact zH [0,1] 0 (by decide) (by simp) (by simp) (by simp)
theorem zMK:Ret prog 100 [.row 0 0] [.row false 31 3 0 []] (.sl 0 []) ([.row false 31 3 0 []]++[]):=by refine zI Tryz.func100 rfl zUn (rs:=[.slot 2]) (by kernel_rfl) ?_;unfold zPG;simp -implicitDefEqProofs [zTe];exact⟨zH [0] 0 (by simp) (by simp) (by simp) (by simp),zH [0] 0 (by simp) (by simp) (by simp) (by simp)⟩
@[simp] theorem zJI:∀(l:List Id) (k:Nat),zBe k (zL l)=true
 | [],_=>rfl
 | d::l,k=>by rw[zCG]; simp[zJI l k]
def zGF (L:List Edg)(to:Id)(n:Nat)(at_:Id)(met:List Id)(e:Edg):List (List Id):=if e.fro=at_∧e.to∉met then (zAs L to n e.to (met++[e.to])).map (e.id::·) else []
theorem zQi {L:List Edg}{to:Id}{n:Nat}{at_:Id}{met:List Id}(h:at_≠to)(hn:zHF L met≤n):zAs L to n at_ met=L.flatMap (zGF L to (n-1) at_ met):=by
 cases n with
 | zero =>
  unfold zAs;rw[if_neg h];symm;rw[List.flatMap_eq_nil_iff];intro e he;unfold zGF;rw[if_neg];rintro⟨_,h'⟩;have:=zCo he h';omega
 | succ n =>
  unfold zAs;rw[if_neg h];rfl
theorem zTs {L:List Edg}{to:Id}{n:Nat}{at_:Id}{met:List Id}{e:Edg}(he:e∈L)(hn:zHF L met≤n)(h:e.fro≠at_∨e.to∈met∨¬Rchs L to met e.to):zGF L to (n-1) at_ met e=[]:=by
 unfold zGF;by_cases hc:e.fro=at_∧e.to∉met
 ·rw[if_pos hc];rcases h with h | h | h
  ·exact(h hc.1).elim
  ·exact(hc.2 h).elim
  ·have hlt:=zCo he hc.2;have:=zKf (n-1) e.to (met++[e.to]) (L:=L) (to:=to) (by omega);rw[List.map_eq_nil_iff];refine Decidable.byContradiction fun h0=>h ?_
   exact(this.1 h0).mono fun x hx=>jBd _ hx
 ·rw[if_neg hc]
def zYp:K:=K.wk (G [kO 7 0,kMb 8 false] (Z (G [J 12 7 3,J 13 1 3,⟨none,.eqs (some 14) false [.i,.i,.i] (kt 12) (kt 13)⟩] (Y 14 (Z (K.dops [(0,1,L 15 2 1),(1,1,L 16 3 1),(2,3,kC 17 100 [(kt 16)]),(3,4,⟨none,.call (some 18) (kt 15) [(kt 17)]⟩),(4,0,M 8 18)]) kr) ks)) (Z (G [L 19 4 1,kN 20 19,kMi 21 0] (K.block 0 (K.loop (G [kB 22 21 20 .lss] (Z (Y 22 ks (K.exit 0)) (Z (K.block 1 (G [kX 23 19 21 9,J 24 23 9,kZ 10 [ki,ki,ki,ki,ki,ki,ki,ki,ki],S 10 24 9] (Z (G [D 25 10 3,J 26 25 3,J 27 7 3,⟨none,.eqs (some 28) true [.i,.i,.i] (kt 26) (kt 27)⟩,M 29 28,T 29 false (L 30 5 1),T 29 false (D 31 10 6),T 29 false (J 32 31 3),⟨some (29,false),.mop (some 33) (.get 3 (.bool false) false) [(kt 30),(kt 32)]⟩,kPt 34 29 33,M 35 34,T 35 false (L 36 4 1),T 35 false (D 37 10 6),T 35 false (J 38 37 3),T 35 false (J 39 1 3),T 35 false (L 40 5 1),T 35 false (kC 41 101 [(kt 36),(kt 38),(kt 39),(kt 40)]),T 35 false (kR 42 41),kPt 43 35 42] (Y 43 (K.exit 1) ks)) (G [L 44 5 1,D 45 10 6,J 46 45 3,⟨none,.mop none (.set 3) [(kt 44),(kt 46),(.const (.bool true))]⟩] (G [L 47 3 1,D 48 10 0,J 49 48 3,kd 50 31 3 1 [ki,ki,ki] [(0,3,(kt 49))],kP 51 31 3 24 47 50,S 3 51 1] (G [L 52 6 1,D 53 10 6,J 54 53 3,⟨none,.call (some 55) (kt 52) [(kt 54)]⟩,M 11 55] (G [L 56 3 1,L 57 3 1,kN 58 57,kBi 59 58 1 .sub,⟨none,.shr (some 60) (kt 56) 3 (kt 59)⟩,S 3 60 1] (G [L 61 5 1,D 62 10 6,J 63 62 3,⟨none,.mop none (.del 3) [(kt 61),(kt 63)]⟩] (G [M 64 11,kR 65 64] (Y 65 (G [kMb 8 false] kr) ks)))))))))) (K.ops [kBi 66 21 1 .add,
 M 21 66]))))))) (G [kMb 8 true] kr))))
def qHd:Nat→Option (List (Nat×Nat)):=fun r=>match r with | 2=>some [(0,1),(1,1),(2,3),(3,4),(4,0)] | _=>none
theorem qFN:qE prog Tryz.f99.ntmps qHd (Tryz.f99.body.getD .skip)=some zYp.erase:=by kernel_rfl
@[simp] theorem zWB:zA prog 99=true:=by kernel_rfl
def zDa (b m:Nat)(L:List Edg)(to:Id)(fr:Bool)(met:List Id)(l n:Nat):St :=
 [.box [yv b],.box [.sl L.length (yF L)],.mp fr 3 (mrk met),.box [.map (m+2)],.box [.row (m+l) n],.box [.clo 99 [] [.rptr (zC to),.ptr m 0,.ptr (m+4) 0,.ptr (m+1) 0,.ptr (m+3) 0,.ptr (m+5) 0]]]
def zLz (b m:Nat)(L:List Edg)(to:Id)(fr:Bool)(met path:List Id):St:=zDa b m L to fr met 6 path.length++[AObj.row false 31 3 path.length (zL path)]
def zJ2 (b m:Nat)(L:List Edg)(to:Id)(met path:List Id):St:=zDa b m L to false met 7 path.length++[AObj.dead,AObj.row false 31 3 path.length (zL path)]
theorem zWp {n0 b m:Nat}{L:List Edg}{to:Id}{fr:Bool}{met path:List Id}{S:St}(hS:S.length=m){env:Env}:zA4 n0 env (S++zJ2 b m L to met path) env (S++zLz b m L to fr met path):=by
 have h1:=zXW (n0:=n0) (env:=env) (σ:=S++zLz b m L to fr met path) (j:=m+4) (o:=0) (l:=m+6) (n:=path.length) (sz:=3) (e:=31) (ds:=[.row (m+6) path.length]) (cs:=zL path)
  (by rw[yY hS]; rfl) rfl (by rw[yY hS]; rfl)
 have e1:((S++zLz b m L to fr met path).set (m+6) .dead).set (m+4) (.box ([A.row (m+6) path.length].set 0 (.row (S++zLz b m L to fr met path).length path.length)))++[AObj.row false 31 3 path.length (zL path)] =
  S++(zDa b m L to fr met 7 path.length++[AObj.dead,AObj.row false 31 3 path.length (zL path)]):=by
  rw[zAE hS,zAE hS,jAy,jA5,hS];simp[zLz,zDa]
 rw[e1]at h1;have h2:=zLc (n0:=n0) (env:=env) (σ:=S++(zDa b m L to fr met 7 path.length++[AObj.dead,AObj.row false 31 3 path.length (zL path)])) (l:=m+2) (nk:=3) (fr:=fr) (es:=mrk met) (by rw[yY hS]; rfl);have e2:(S++(zDa b m L to fr met 7 path.length++[AObj.dead,AObj.row false 31 3 path.length (zL path)])).set (m+2) (.mp false 3 (mrk met))=S++zJ2 b m L to met path:=by rw[zAE hS];simp[zJ2,zDa]
 rw[e2]at h2;exact h1.trans h2
def zJ9 (m:Nat)(at_ to:Id):List A:=[.agg (zC at_),.rptr (zC to),.ptr m 0,.ptr (m+4) 0,.ptr (m+1) 0,.ptr (m+3) 0,.ptr (m+5) 0]
theorem zT0 {L:List Edg}(hL:L.length≤1000)(to:Id)(b m:Nat)(T:Nat→St)(X:List (List A))(hT:∀i,i≤X.length→Cl m (T i))
 (hY:∀i (h:i<X.length),zCg prog b X[i] (T i) fun o τ=>o=.ret (.lit (.bool true))∧τ = T (i+1)) :
 ∀(n:Nat) (at_:Id) (met path:List Id) (fr:Bool) (i:Nat),zHF L met≤n→path.length+n≤2000→i+(zAs L to n at_ met).length≤X.length →
  (∀q (hq:q<(zAs L to n at_ met).length) (h:i+q<X.length),X[i+q]=[.sl (path++(zAs L to n at_ met)[q]).length (zL (path++(zAs L to n at_ met)[q]))]) →
  Ret prog 99 (zJ9 m at_ to) (T i++zLz b m L to fr met path) (bl true) (T (i+(zAs L to n at_ met).length)++zJ2 b m L to met path):=by
 intro n;induction n using Nat.strongRecOn with
 | ind n ih =>
 intro at_ met path fr i hn hpn hi hX
 have hTi:=hT i (by omega);have hTe:=hT (i+(zAs L to n at_ met).length) hi;have hlen0:(T i++zLz b m L to fr met path).length=m+7:=by rw[jA5,hTi.1]; simp[zLz,zDa]
 refine qL Tryz.func99 rfl qFN (rs:=[.slot 8]) (by kernel_rfl) ?_;unfold zYp;rw[qCx,hlen0];rw[qCy];refine⟨_,_,zWp hTi.1,?_⟩;unfold zJ9;simp -implicitDefEqProofs [zJ2,zDa,hTi.1,yY hTi.1,zAc hTi.1,zC];by_cases hat:at_=to
 ·have hE:zAs L to n at_ met=[[]]:=by subst hat; cases n<;>simp[zAs]
  subst hat;rw[hE]at hX hTe hi;simp only[jC0]at hX hTe hi;have hyi:=hY i (by omega);have hXi:=hX 0 (by omega) (by omega);simp only[jBl,jDf,jCd]at hXi;rw[hXi]at hyi;rw[hE,jC0];simp -implicitDefEqProofs [hTi.1,yY hTi.1,zAc hTi.1,zHw];by_cases hp:path=[]
  ·subst hp;refine zR0 zMK [m+7] (by simp) rfl (by simp[yY hTi.1]) (by simp) (by simp[zAE hTi.1]) ?_;simp -implicitDefEqProofs [hTi.1,yY hTi.1,zAc hTi.1];refine⟨_,_,zIp hTi hTe hyi (by simp) ⟨rfl,rfl⟩,?_⟩;exact zIH (own':=zJ2 b m L at_ met []) hTe rfl [0,1,2,3,4,5,6,7] 0 (by decide) (by decide) (by simp[zJ2,zDa,zC]) (by simp)
  ·refine zR0 (zOf path hp (by omega)) [m+7] (by simp) rfl (by simp[yY hTi.1]) (by simp) (by simp[zAE hTi.1]) ?_;simp -implicitDefEqProofs [hTi.1,yY hTi.1,zAc hTi.1];refine exY (k:=9) rfl hTi hTe (zJI path 0) hyi ?_;simp -implicitDefEqProofs;exact zIH (own':=zJ2 b m L at_ met path) hTe rfl [0,1,2,3,4,5,6,7] 0 (by decide) (by decide) (by simp[zJ2,zDa,zC]) (by simp)
 ·have hE:=zQi (L:=L) (n:=n) (met:=met) hat hn;generalize hEE:zAs L to n at_ met=E at *
  have hspl:∀j,E=(L.take j).flatMap (zGF L to (n-1) at_ met)++(L.drop j).flatMap (zGF L to (n-1) at_ met):=fun j=>by rw[←jCe,jC7]; exact hE
  obtain⟨cnt,hcd⟩:∃cnt:Nat→Nat,∀j,cnt j=((L.take j).flatMap (zGF L to (n-1) at_ met)).length:=⟨_,fun _=>rfl⟩;have hcnt:∀j,cnt j≤E.length:=fun j=>by rw[hcd,hspl j,jA5]; omega
  have hc0:cnt 0=0:=by rw[hcd]; simp
  have hcL:cnt L.length=E.length:=by rw[hcd,jAv,hE]
  simp -implicitDefEqProofs [hTi.1,yY hTi.1,zAc hTi.1,hat];intro hlm;refine jM (S:=Nat) (fun j=>[(1,.rptr (zC to)),(2,.ptr m 0),(3,.ptr (m+4) 0),(4,.ptr (m+1) 0),(5,.ptr (m+3) 0),(6,.ptr (m+5) 0),(7,.ptr (m+8) 0),(19,.sl L.length (yF L)),(20,int L.length),(21,int j)])
   (fun j=>T (i+cnt j)++(zDa b m L to false met 7 path.length++[AObj.dead,AObj.row false 31 3 path.length (zL path),AObj.box (zC at_)]))
   (fun j=>j≤L.length) (fun j=>L.length-j) 0 (by simp) ?_ ?_
  ·rw[hc0];exact zM3 hTi rfl [0,1,2,3,4,5,6,7,8] 0 (by decide) (by decide) (by simp[zDa,zC]) (by simp[zC])
  intro j hj;have hTj:=hT (i+cnt j) (by have:=hcnt j; omega);by_cases h:j<L.length
  ·have hw:=zA0 j (by omega);have hel:L[j]∈L:=jA3 h;have hsucc:cnt (j+1)=cnt j+(zGF L to (n-1) at_ met L[j]).length:=by rw[hcd,hcd,jAa h,jCe,List.flatMap_singleton,jA5]
   have hle:=hcnt (j+1);have hg:=zKp L[j].to met;have hnone:=zTs (L:=L) (to:=to) (at_:=at_) (met:=met) hel hn;by_cases c1:L[j].fro=at_
   ·by_cases c2:L[j].to∈met
    ·rw[hnone (.inr (.inl c2)),jBx,jBl]at hsucc;simp -implicitDefEqProofs [zDa,hTj.1,yY hTj.1,zAc hTj.1,zAE hTj.1,h,zBk h,zAZ,zC,c1,c2,hg];refine zP (j+1) h (by omega) ?_;rw[hsucc];exact zM3 hTj rfl [0,1,2,3,4,5,6,7,8] 0 (by decide) (by decide) (by simp[zDa,zC]) (by simp[zC,hw])
    ·simp -implicitDefEqProofs [zDa,hTj.1,yY hTj.1,zAc hTj.1,zAE hTj.1,h,zBk h,zAZ,zC,c1,c2,hg];refine jJ (zQQ L hL L[j].to to met false) [m+2] (by simp) (by simp[yY hTj.1]) (by simp[zC]) ?_;simp -implicitDefEqProofs [hTj.1,yY hTj.1,zAc hTj.1,zAE hTj.1];by_cases c3:Rchs L to met L[j].to
     ·have hlt:=zCo hel c2;have hpe:zGF L to (n-1) at_ met L[j]=(zAs L to (n-1) L[j].to (met++[L[j].to])).map (L[j].id::·):=by rw[zGF,if_pos ⟨c1,c2⟩]
      have hput:=zKJ L[j].to met c2;have hdel:=zOi L[j].to met c2;simp only[zHd]at hput hdel;rw[hpe,jB5]at hsucc;have hsucc':i+cnt (j+1)=i+cnt j+(zAs L to (n-1) L[j].to (met++[L[j].to])).length:=by omega
      have hcall:=ih (n-1) (by omega) L[j].to (met++[L[j].to]) (path++[L[j].id]) false (i+cnt j) (by omega) (by simp; omega) (by omega) (fun q hq hqx=>by
       have h2:cnt j+q<E.length:=by omega
       have:=hX (cnt j+q) h2 (by omega);have hEq:E[cnt j+q]=L[j].id::(zAs L to (n-1) L[j].to (met++[L[j].to]))[q]:=by
        have h3:E[cnt j+q]?=some (L[j].id::(zAs L to (n-1) L[j].to (met++[L[j].to]))[q]):=by rw[hspl j,jAp (by rw[←hcd]; omega),←hcd,Nat.add_sub_cancel_left,jAu h,jBc,hpe,jAd (by simpa using hq),jCr,jA2 hq];rfl
        rw[jA2 h2]at h3;exact jB1 h3
       rw[hEq]at this
       simpa [jBg] using this)
      have hT1:=hT (i+cnt j+(zAs L to (n-1) L[j].to (met++[L[j].to])).length) (by omega);simp -implicitDefEqProofs [hTj.1,yY hTj.1,zAc hTj.1,zAE hTj.1,c3,hput];refine⟨⟨by simp[maxLen]; omega,by omega⟩,?_⟩;have hcs:zL (path++[L[j].id])=zL path++[.lit (.int .i64 L[j].id.a),.lit (.int .i64 L[j].id.b),.lit (.int .i64 L[j].id.c)]:=by rw[zAi]; rfl
      have htk:(zL path++[A.lit (.int .i64 L[j].id.a),.lit (.int .i64 L[j].id.b),.lit (.int .i64 L[j].id.c)]).take (path.length*3)=zL path:=by rw[jC (by simp)];exact jAj (by simp)
      refine zUr hTj hT1 hcall [0,1,2,3,4,5,7] (by decide) (by simp[zLz,zDa,zC,hcs]) (by simp[zJ9,zC]) ?_;have hwp:IntKind.i64.wrap (path.length:Int)=path.length:=IntWalk.i64_in _ (by omega);simp -implicitDefEqProofs [zJ2,zDa,zC,hcs,hT1.1,yY hT1.1,zAc hT1.1,zAE hT1.1,hdel,hwp,htk];refine⟨by omega,?_⟩;refine zP (j+1) h (by omega) ?_;rw[hsucc'];exact zM3 hT1 rfl [0,1,2,3,4,5,6,11,8] 0 (by decide) (by decide) (by simp[zDa,zC]) (by simp[zC,hw])
     ·rw[hnone (.inr (.inr c3)),jBx,jBl]at hsucc;simp -implicitDefEqProofs [c3];refine zP (j+1) h (by omega) ?_;rw[hsucc];exact zM3 hTj rfl [0,1,2,3,4,5,6,7,8] 0 (by decide) (by decide) (by simp[zDa,zC]) (by simp[zC,hw])
   ·rw[hnone (.inl c1),jBx,jBl]at hsucc;simp -implicitDefEqProofs [zDa,hTj.1,yY hTj.1,zAc hTj.1,zAE hTj.1,h,zBk h,zAZ,zC,c1];refine zP (j+1) h (by omega) ?_;rw[hsucc];exact zM3 hTj rfl [0,1,2,3,4,5,6,7,8] 0 (by decide) (by decide) (by simp[zDa,zC]) (by simp[zC,hw])
  ·have hj':j=L.length:=by omega
   subst hj';rw[hcL]at hTj ⊢;simp -implicitDefEqProofs [hTj.1,yY hTj.1,zAc hTj.1];exact zIH (own':=zJ2 b m L to met path) hTe rfl [0,1,2,3,4,5,6,7] 0 (by decide) (by decide) (by simp[zJ2,zDa,zC]) (by simp)
def zZ (l:List (List Id)):List A:=l.map fun q=>.sl q.length (zL q)
@[simp] theorem zYS (l:List (List Id)):(zZ l).length=l.length:=by simp[zZ]
@[simp] theorem zYT:zZ []=[]:=rfl
theorem zJN (a b:List (List Id)):zZ (a++b)=zZ a++zZ b:=by simp[zZ]
theorem zE9 (q:List Id)(l:List (List Id)):zZ (q::l)=.sl q.length (zL q)::zZ l:=rfl
theorem zDP:∀(l:List (List Id)),qF (zZ l)
 | []=>qF.nil
 | q::l=>qF.sl (zBl q) (zDP l)
@[simp] theorem zX2 (l:List (List Id)):qV (zZ l)=zZ l:=(zDP l).1
@[simp] theorem qCh {rf g}(l:List (List Id)):vwL rf g (zZ l)=zZ l:=(zDP l).2 _ _
@[simp] theorem zNQ:∀(l:List (List Id)) (k:Nat),zBe k (zZ l)=true
 | [],_=>rfl
 | q::l,k=>by rw[zE9]; simp[zNQ l k]
theorem zAl {l:List (List Id)}{i:Nat}(h:i<l.length):(zZ l).drop i=.sl l[i].length (zL l[i])::zZ (l.drop (i+1)):=by rw[zZ,←List.map_drop,jAu h]; rfl
@[simp] theorem qAa (l:List Md)(k:Nat):zBe k (qQ l)=true:=(zE8 l).bnd k
@[simp] theorem zZZ (l:List Dfn)(k:Nat):zBe k (qB l)=true:=(zE3 l).bnd k
@[simp] theorem qF4 (d:Id)(k:Nat):zBe k (zC d)=true:=by simp[zC]
def zYl:K:=G [kO 3 0,kO 4 1,kO 5 2,⟨none,.mov (some 6) (.const .nilFunc)⟩] (G [⟨none,.clo (some 7) 97 [] [(kt 3),(kt 4),(kt 5)]⟩,M 6 7] kr)
theorem qFJ:zR prog Tryz.f53.ntmps (Tryz.f53.body.getD .skip)=some zYl.erase:=by kernel_rfl
@[simp] theorem qJx:zA prog 53=true:=by kernel_rfl
theorem zS0 (p:Prg)(fro to:Id):Ret prog 53 [.agg (zM p),.agg (zC fro),.agg (zC to)] [] (.clo 97 [] [.rptr (zM p),.rptr (zC fro),.rptr (zC to)]) []:=by refine zI Tryz.func53 rfl qFJ (rs:=[.slot 6]) (by kernel_rfl) ?_;unfold zYl;simp -implicitDefEqProofs [zM,zC];exact zB 1 (by simp)
def zYk:K:=G [kO 4 0] (G [J 9 1 2,kC 10 98 [(kt 9)],kZ 5 [kl],S 5 10 1] (G [⟨none,.mop (some 11) (.mk 3) []⟩,J 12 2 3,⟨none,.mop none (.set 3) [(kt 11),(kt 12),(.const (.bool true))]⟩,M 13 11,kZ 6 [(.map none)],S 6 13 1] (G [kZ 7 [kl]] (G [kZ 8 [.nilFunc]] (G [⟨none,.clo (some 14) 99 [] [(kt 3),(kt 4),(kt 7),(kt 5),(kt 6),(kt 8)]⟩,S 8 14 1] (K.wk (K.ops [L 15 8 1,J 16 2 3,⟨none,.call (some 17) (kt 15) [(kt 16)]⟩])))))))
theorem qFI:zR prog Tryz.f97.ntmps (Tryz.f97.body.getD .skip)=some zYk.erase:=by kernel_rfl
@[simp] theorem zWA:zA prog 97=true:=by kernel_rfl
@[simp] theorem qJG:zA prog 99=true:=zWB
def yB (p:Prg)(fro to:Id):List (List Id):=zAs (yT p) to (yT p).length fro [fro]
theorem zQg {p:Prg}{hs:List Hd}(hf:Fit p hs):(yT p).length≤100:=by
 have h1:(yT p).length=(zCk p).length:=by rw[←zDI hf]; exact(zCa _).length_eq
 have h2:=jDa jT p.defs;have h3:=hf.len8;unfold zCk at h1;omega
theorem zQM {p:Prg}{hs:List Hd}(hf:Fit p hs)(fro to:Id):zRq prog 97 [] [.rptr (zM p),.rptr (zC fro),.rptr (zC to)] ((yB p fro to).map fun q=>[.sl q.length (zL q)]):=by
 refine zFH fun b m T hT hY=>?_
 have h0:=hT 0 (jAs _);have hn:=hT _ (jA _);have hP:=eP p;have hL:=zQg hf;have hm1:putI [fro.a,fro.b,fro.c] (.lit (.bool true)) []=mrk [fro]:=rfl;have hvis:=zT0 (L:=yT p) (by omega) to b m T _ hT hY (yT p).length fro [fro] [] true 0 (zO0 _) (by simp; omega) (by simp[yB]) (fun q hq hqx=>by simp[yB]);refine zI Tryz.func97 rfl qFI (rs:=[]) (by kernel_rfl) ?_;unfold zYk;simp -implicitDefEqProofs [h0.1,zAc h0.1,hP];refine qD (zU9 hf) (by simp[hP]) (by simp) ?_;simp -implicitDefEqProofs [h0.1,yY h0.1,zAc h0.1,zAE h0.1,zHZ h0.1,zC,hm1,jBg];have hw:=zAU (n0:=m) (env:=qU [(2,.rptr (zC fro)),(8,.ptr (m+5) 0)]) (l:=m+4) (o:=0) (σ:=T 0++[AObj.box [yv b],.box [.sl (yT p).length (yF (yT p))],.mp true 3 (mrk [fro]),.box [.map (m+2)],.box [.nil],
  .box [.clo 99 [] [.rptr (zC to),.ptr m 0,.ptr (m+4) 0,.ptr (m+1) 0,.ptr (m+3) 0,.ptr (m+5) 0]]]) (by rw[yY h0.1]; rfl) rfl 31 3
 rw[zAE h0.1,jAy,jA5,h0.1]at hw;refine⟨_,_,(zM3 (c:=0) h0 rfl [0,1,2,3,4,5] 0 (by simp) (by decide) (by simp[zC]) (by simp[zC])).trans hw,?_⟩;simp -implicitDefEqProofs [h0.1,yY h0.1,zAc h0.1];rw[jAq]at hvis;have hn':Cl m (T (zAs (yT p) to (yT p).length fro [fro]).length):=by simpa [yB] using hn
 refine zUr h0 hn' hvis [0,1,2,3,4,5,6] (by decide) (by simp[zLz,zDa,zC]) (by simp[zJ9,zC]) ?_;simp -implicitDefEqProofs;exact zNx hn' (by simp)
def qED:K:=G [kO 3 0,kO 4 1,kO 5 2,kZ 6 [kl],kZ 7 [ki]] (Z (G [J 10 3 2,J 11 4 3,kC 12 52 [(kt 10),(kt 11)],kR 13 12,M 14 13,T 14 false (J 15 3 2),T 14 false (J 16 5 3),T 14 false (kC 17 52 [(kt 15),(kt 16)]),T 14 false (kR 18 17),kPt 19 14 18] (Y 19 (G [⟨none,.st none (kt 6) (.const kl) 1⟩,⟨none,.st none (kt 7) (kc 6) 1⟩] kr) ks)) (G [kZ 8 [kl]] (Z (G [J 20 3 2,J 21 4 3,J 22 5 3,kC 23 53 [(kt 20),(kt 21),(kt 22)]] (K.block 0 (K.rng (kt 23) [24] (K.ops [M 9 24]) (K.block 1 (Z (G [L 25 8 1,kN 26 25,kQi 27 26 64 false] (Y 27 (G [⟨none,.st none (kt 6) (.const kl) 1⟩,⟨none,.st none (kt 7) (kc 4) 1⟩] kr) ks)) (K.ops [L 28 8 1,M 29 9,kd 30 28 1 1 [kl] [(0,1,(kt 29))],kP 31 28 1 24 28 30,S 8 31 1])))))) (G [L 32 8 1,S 6 32 1,⟨none,.st none (kt 7) (kc 0) 1⟩] kr))))
theorem qLK:zR prog Tryz.f20.ntmps (Tryz.f20.body.getD .skip)=some qED.erase:=by kernel_rfl
@[simp] theorem qMq:zA prog 20=true:=by kernel_rfl
def zCM (p:Prg)(fro to:Id):A:=if zAT p fro=true∧zAT p to=true then .tup [.sl (yB p fro to).length (zZ (yB p fro to)),int 0] else .tup [.sl 0 [],int 6]
theorem zHs {p:Prg}{hs:List Hd}(hf:Fit p hs)(fro to:Id)(h64:(yB p fro to).length≤64):Ret prog 20 [.agg (zM p),.agg (zC fro),.agg (zC to)] [] (zCM p fro to) []:=by
 have hP:=eP p;refine zI Tryz.func20 rfl qLK (rs:=[.cell 6 1 false,.cell 7 1 false]) (by kernel_rfl) ?_;unfold qED;simp -implicitDefEqProofs [hP,zC];refine qD (zM5 p fro) (by simp[hP,zC]) (by simp) ?_;by_cases h1:zAT p fro=true
 ·simp -implicitDefEqProofs [h1];refine qD (zM5 p to) (by simp[hP,zC]) (by simp) ?_;by_cases h2:zAT p to=true
  ·simp -implicitDefEqProofs [h2];refine qD (zS0 p fro to) (by simp[hP,zC]) (by simp[hP,zC]) ?_;simp -implicitDefEqProofs;refine⟨[(6,.ptr 3 0),(7,.ptr 4 0),(8,.ptr 5 0),(23,.clo 97 [] [.rptr (zM p),.rptr (zC fro),.rptr (zC to)])],7,(yB p fro to).map (fun q=>[.sl q.length (zL q)]),
    fun j=>[.box (zM p),.box (zC fro),.box (zC to),.box [.sl 0 []],.box [int 0],.box [.row 6 j],.row false 28 1 j (zZ ((yB p fro to).take j))],97,[],[.rptr (zM p),.rptr (zC fro),.rptr (zC to)],by simp[hP,zC],zWA,zQM hf fro to,?_,by omega,?_,by simp[hP,zC],by simp,?_,?_⟩
   ·exact(zAU (l:=5) (o:=0) rfl rfl 28 1).trans (zO [0,1,2,3,4,5,6] 0 (by decide) (by decide) (by simp[hP,zC]) (by simp[hP,zC]))
   ·intro i hi;simp[hP,zC]
   ·intro i hi b' M r r';simp only[jB5]at hi;have htk:(yB p fro to).take (i+1)=(yB p fro to).take i++[(yB p fro to)[i]]:=jAa hi;have hne:¬((i:Int)=64):=by omega
    simp -implicitDefEqProofs [hne];exact⟨⟨by simp[maxLen]; omega,by omega⟩,Wk.here (by rw[htk,zJN]; rfl)⟩
   ·have htk:(yB p fro to).take (yB p fro to).length=yB p fro to:=jAv;simp -implicitDefEqProofs [htk];exact zB 1 (by simp[zCM,h1,h2])
  ·have h2':zAT p to=false:=by simpa using h2
   simp -implicitDefEqProofs [h2'];exact zB 0 (by simp[zCM,h2'])
 ·have h1':zAT p fro=false:=by simpa using h1
  simp -implicitDefEqProofs [h1'];exact zB 0 (by simp[zCM,h1'])
@[simp] theorem qCJ:zA prog 124=true:=by kernel_rfl
def zTP:K:=G [kO 3 1,kMb 4 false] (Z (G [kMi 5 0] (K.block 0 (K.loop (Z (G [M 6 5,M 7 0,kN 8 7,kB 9 6 8 .lss] (Y 9 ks (K.exit 0))) (Z (K.block 1 (Z (K.dops [(0,0,M 12 0),(1,0,M 13 5),(2,0,kX 14 12 13 3),(3,0,J 15 14 3),(4,0,J 16 3 3),(5,0,⟨none,.eqs (some 17) false [.i,.i,.i] (kt 15) (kt 16)⟩)]) (Y 17 (G [kMb 4 true] kr) ks))) (K.ops [M 10 5,kBi 11 10 1 .add,M 5 11])))))) (G [kMb 4 false] kr))
theorem qAg:zR prog Tryz.f33.ntmps (Tryz.f33.body.getD .skip)=some zTP.erase:=by kernel_rfl
@[simp] theorem qGv:zA prog 33=true:=by kernel_rfl
def zRr:K:=G [kMb 4 false] (Z (G [M 6 0,kN 7 6,M 8 1,kN 9 8,kQ 10 7 9 true] (Y 10 (G [kMb 4 false] kr) ks)) (Z (G [kMi 5 0] (K.block 0 (K.loop (Z (G [M 11 5,M 12 0,kN 13 12,kB 14 11 13 .lss] (Y 14 ks (K.exit 0))) (Z (K.block 1 (Z (K.dops [(0,0,M 17 0),(1,0,M 18 5),(2,0,kX 19 17 18 3),(3,0,J 20 19 3),(4,0,M 21 1),(5,0,M 22 5),(6,0,kX 23 21 22 3),(7,0,J 24 23 3),(8,0,⟨none,.eqs (some 25) true [.i,.i,.i] (kt 20) (kt 24)⟩)]) (Y 25 (G [kMb 4 false] kr) ks))) (K.ops [M 15 5,kBi 16 15 1 .add,M 5 16])))))) (G [kMb 4 true] kr)))
theorem zW9:zR prog Tryz.f31.ntmps (Tryz.f31.body.getD .skip)=some zRr.erase:=by kernel_rfl
@[simp] theorem qCK:zA prog 31=true:=by kernel_rfl
@[simp] theorem qGw:zA prog 82=true:=by kernel_rfl
theorem zOI (l:List Id)(x:Id):Ret prog 33 [.sl l.length (zL l),.agg (zC x)] [] (bl (decide (x∈l))) []:=by
 refine zI Tryz.func33 rfl qAg (rs:=[.slot 4]) (by kernel_rfl) ?_;unfold zTP;simp -implicitDefEqProofs [zC];refine jM (S:=Nat) (fun i=>[(0,.sl l.length (zL l)),(3,.ptr 0 0),(5,int i)]) (fun s=>[.box (zC x)]) (fun i=>i≤l.length∧x∉l.take i) (fun i=>l.length-i) 0 (by simp)
  (zO [0] 0 (by simp) (by simp) (by simp[zC]) (by simp)) ?_
 rintro i ⟨hi,hn⟩;by_cases h:i<l.length
 ·simp -implicitDefEqProofs [h,yW h,zC];intro hl;refine qR (fun h'=>?_) (fun h'=>?_)<;>simp at h'<;>simp -implicitDefEqProofs
  ·have hx:l[i]=x:=h';exact zB 0 (by simp[←hx])
  ·have hx:l[i]≠x:=h';refine zP (i+1) ⟨h,?_⟩ (by omega) (zO [0] 0 (by simp) (by simp) (by simp[zC]) (by simp[qP h hl]));rw[jAa h];simp only[jAb,jAn,not_or];exact⟨hn,fun e=>hx e.symm⟩
 ·have:i=l.length:=by omega
  subst this;simp -implicitDefEqProofs;rw[jAv]at hn;exact fun _=>zB 0 (by simp[hn])
theorem zII (a b:List Id):Ret prog 31 [.sl a.length (zL a),.sl b.length (zL b)] [] (bl (decide (a=b))) []:=by
 refine zI Tryz.func31 rfl zW9 (rs:=[.slot 4]) (by kernel_rfl) ?_;unfold zRr;by_cases hab:a.length=b.length
 ·have hab':(a.length:Int)=b.length:=by omega
  simp -implicitDefEqProofs [hab];intro hlb;refine jM (S:=Nat) (fun i=>[(0,.sl a.length (zL a)),(1,.sl b.length (zL b)),(5,int i)]) (fun s=>[]) (fun i=>i≤a.length∧a.take i=b.take i) (fun i=>a.length-i) 0 (by simp)
   (zO [] 0 (by simp) (by simp) (by simp) (by simp[hab])) ?_
  rintro i ⟨hi,hn⟩;by_cases h:i<a.length
  ·have hb:i<b.length:=by omega
   simp -implicitDefEqProofs [h,hb,yW h,yW hb];intro hl;refine qR (fun h'=>?_) (fun h'=>?_)<;>simp at h'<;>simp -implicitDefEqProofs
   ·have hx:a[i]≠b[i]:=fun e=>by rw[e]at h'; simp at h'
    have hne:a≠b:=fun e=>hx (by subst e; rfl)
    exact zB 0 (by simp[hne])
   ·have hx:a[i]=b[i]:=h';refine zP (i+1) ⟨h,?_⟩ (by omega) (zO [] 0 (by simp) (by simp) (by simp) (by simp[qP h hl]));rw[jAa h,jAa hb,hn,hx]
  ·have:i=a.length:=by omega
   subst this;simp -implicitDefEqProofs;have:a=b:=by rw[jAv,hab,jAv]at hn; exact hn
   exact fun _=>zB 0 (by simp[this])
 ·have hne:a≠b:=fun e=>hab (by rw[e])
  have hab':¬(a.length:Int)=b.length:=by omega
  simp -implicitDefEqProofs [hab'];exact fun _ _=>zB 0 (by simp[hne])
@[simp] theorem qGq:zA prog 35=true:=by kernel_rfl
def zPH:K:=(G [D 29 6 13,L 30 29 1,kN 31 30,kMi 32 0] (K.block 0 (K.loop (G [kB 33 32 31 .lss] (Z (Y 33 ks (K.exit 0)) (Z (K.block 1 (G [kX 34 30 32 15,J 35 34 15,kZ 9 kz1,S 9 35 15] (Z (K.dops [(0,0,D 36 6 3),(1,0,L 37 36 1),(2,0,kQi 38 37 8 false),(3,0,M 39 38),(4,0,T 39 true (D 40 9 3)),(5,0,T 39 true (L 41 40 1)),(6,0,T 39 true (kQi 42 41 2 false)),(7,0,kPf 43 39 42),(8,0,M 44 43),(9,0,T 44 true (D 45 9 5)),(10,0,T 44 true (J 46 45 3)),(11,0,T 44 true (D 47 2 8)),(12,0,T 44 true (L 48 47 1)),(13,0,T 44 true (kXi 49 48 11 0)),(14,0,T 44 true (D 50 49 0)),(15,0,T 44 true (J 51 50 3)),(16,0,⟨some (44,true),.eqs (some 52) false [.i,.i,.i] (kt 46) (kt 51)⟩),(17,0,kPf 53 44 52),(18,0,M 10 53)]) (Z (G [M 54 10] (Y 54 (K.ops [L 55 4 1,D 56 6 4,L 57 56 1,⟨none,.mop none (.set 1) [(kt 55),(kt 57),(.const (.bool true))]⟩]) ks)) (K.ops [L 58 5 1,J 59 9 15,M 60 10,⟨none,.call (some 61) (kt 58) [(kt 59),(kt 60)]⟩]))))) (K.ops [kBi 62 32 1 .add,M 32 62])))))))
def zYt:K:=G [kO 6 0] (Z (Z (K.dops [(0,0,D 11 6 3),(1,0,L 12 11 1),(2,0,kQi 13 12 2 false),(3,0,M 14 13),(4,0,T 14 true (D 15 6 5)),(5,0,T 14 true (J 16 15 3)),(6,0,T 14 true (D 17 2 8)),(7,0,T 14 true (L 18 17 1)),(8,0,T 14 true (kXi 19 18 11 0)),(9,0,T 14 true (D 20 19 0)),(10,0,T 14 true (J 21 20 3)),(11,0,⟨some (14,true),.eqs (some 22) false [.i,.i,.i] (kt 16) (kt 21)⟩),(12,0,kPf 23 14 22)]) (Y 23 (K.ops [L 24 3 1,M 25 24,T 25 false (M 26 1),T 25 false (kR 27 26),kPt 28 25 27,S 3 28 1]) ks)) (K.wk zPH))
theorem qFV:zR prog Tryz.f58.ntmps (Tryz.f58.body.getD .skip)=some zYt.erase:=by kernel_rfl
@[simp] theorem qJ5:zA prog 58=true:=by kernel_rfl
def mki (l:List Int):List (List Int×A):=l.map fun x=>([x],.lit (.bool true))
def adI (l:List Int)(x:Int):List Int:=if x∈l then l else l++[x]
theorem zWz {l:List Int}{x y:Int}:y∈adI l x↔y∈l∨y=x:=by
 unfold adI;split
 ·rename_i h;exact⟨.inl,fun hh=>hh.elim id fun e=>e▸h⟩
 ·simp
theorem zNG {y:Int}:∀(m l:List Int),y∈m.foldl adI l↔y∈l∨y∈m
 | [],l=>by simp
 | x::m,l=>by rw[jBz,zNG m,zWz,jA7]; exact or_assoc
theorem zRQ (x:Int):∀l:List Int,Go.Abs.putI [x] (.lit (.bool true)) (mki l)=mki (adI l x)
 | []=>rfl
 | y::l=>by
  have ih:=zRQ x l;simp only[mki,jA9,Go.Abs.putI]at ih ⊢;by_cases h:y=x
  ·subst h;simp[adI]
  ·have h':¬[y]=[x]:=fun e=>h (by simpa using e)
   have h2:¬x=y:=fun e=>h e.symm
   rw[if_neg h',ih];unfold adI;by_cases hx:x∈l
   ·simp[hx]
   ·simp[hx,h2]
theorem zOW (x:Int):∀l:List Int,zB4 [x] (mki l)=if x∈l then some (.lit (.bool true)) else none
 | []=>rfl
 | y::l=>by
  have ih:=zOW x l;simp only[mki,jA9,zB4]at ih ⊢;by_cases h:y=x
  ·subst h;simp
  ·have h':¬[y]=[x]:=fun e=>h (by simpa using e)
   have h2:¬x=y:=fun e=>h e.symm
   rw[if_neg h',ih];simp[h2]
theorem zXu (x:Int)(l:List Int):zEK (Value.bool false) false (zB4 [x] (mki l))=.lit (.bool (decide (x∈l))):=by rw[zOW];split<;>rename_i h<;>simp[zEK,h,qS,zET]
@[simp] theorem qNQ {rf g}(l:List Int):(mki l).map (fun p=>(p.1,vw rf g p.2))=mki l:=by unfold mki;rw[jC5]; rfl
def fvS (D:List A)(w:Bool)(l:List Int):St:=[.box [bl w],.box [.map 2],.mp false 1 (mki l),.box [.clo 58 [] [.rptr D,.ptr 0 0,.ptr 1 0,.ptr 3 0]]]
def fvA (D:List A)(e:Exp)(f:Bool):List A:=[.agg (zT e),bl f,.rptr D,.ptr 0 0,.ptr 1 0,.ptr 3 0]
def zTK (D:List A)(s:Id)(e:Exp):Prop:=∀(f w:Bool) (l:List Int),Ret prog 58 (fvA D e f) (fvS D w l) (.tup []) (fvS D (w||zDW s e f) ((zI7 s e).foldl adI l))
theorem zRm (s:Id)(e:Exp)(f:Bool):zDW s e f=((decide (e.k=2)&&decide (e.ref=s)&&!f)||zCb s (decide (e.k=8)) e.kids):=by cases e; rfl
theorem zV5 (s:Id)(e:Exp):zI7 s e=zHf s (decide (e.k=8)) e.n e.kids:=by cases e; rfl
theorem zJu (s:Id)(f:Bool):∀(l:List Exp) {i:Nat} (h:i<l.length),zCb s f (l.take (i+1))=(zCb s f (l.take i)||zDW s l[i] (f&&isS s l[i]))
 | [],i,h=>by simp at h
 | e::l,0,_=>by simp[zCb]
 | e::l,i+1,h=>by simp only[jC8,zCb,jD7];rw[zJu s f l (by simpa using h),Bool.or_assoc]
theorem zMn (s:Id)(f:Bool)(n:Int):∀(l:List Exp) {i:Nat} (h:i<l.length),zHf s f n (l.take (i+1))=zHf s f n (l.take i)++((if (f&&isS s l[i])=true then [n] else [])++zI7 s l[i])
 | [],i,h=>by simp at h
 | e::l,0,_=>by simp[zHf]
 | e::l,i+1,h=>by simp only[jC8,zHf,jD7];rw[zMn s f n l (by simpa using h)];simp
theorem zNg (s:Id)(k:Exp):isS s k=(decide (k.k=2)&&decide (k.ref=s)):=rfl
theorem qAW (D D':List A)(u:Slt)(hD:D.drop 8=.sl 1 (yG u)::D')(hv:∀rf g,vwL rf g D=D)(hn:qV D=D)(e:Exp)(ih:∀k∈e.kids,zTK D u.id k)(f w:Bool)(l:List Int) :
 wpK prog 4 zPH (fin [] (zFq 4 (.tup []) (fvS D (w||zCb u.id (decide (e.k=8)) e.kids) ((zHf u.id (decide (e.k=8)) e.n e.kids).foldl adI l)))) (qU [(2,.rptr D),(3,.ptr 0 0),(4,.ptr 1 0),(5,.ptr 3 0),(6,.ptr 4 0)]) (fvS D w l++[.box (zT e)]):=by
 obtain⟨b8,hb8⟩:∃b,b=decide (e.k=8):=⟨_,rfl⟩;rw[←hb8];unfold zPH;simp -implicitDefEqProofs [fvS,zT];intro hmx;refine jM (S:=Nat) (fun i=>[(2,.rptr D),(3,.ptr 0 0),(4,.ptr 1 0),(5,.ptr 3 0),(6,.ptr 4 0),(30,.sl e.kids.length (jP e.kids)),(31,int e.kids.length),(32,int i)])
  (fun i=>fvS D (w||zCb u.id b8 (e.kids.take i)) ((zHf u.id b8 e.n (e.kids.take i)).foldl adI l)++[.box (zT e)]) (fun i=>i≤e.kids.length) (fun i=>e.kids.length-i) 0 (by simp)
  (zO [0,1,2,3,4] 0 (by decide) (by decide) (by simp[fvS,hv,zT,zCb,zHf]) (by simp[hv])) ?_
 intro i hi;by_cases h:i<e.kids.length
 ·have hw:=qP h hmx;have hwt:=zJu u.id b8 e.kids h;have hmt:=zMn u.id b8 e.n e.kids h;have hne:¬e.kids=[]:=fun e'=>by rw[e']at h; simp at h
  have hk:=ih e.kids[i] (jA3 h);generalize hww:(w||zCb u.id b8 (e.kids.take i))=wi at *
  generalize hll:(zHf u.id b8 e.n (e.kids.take i)).foldl adI l=li at *
  have fold1:∀own:Bool,(b8&&isS u.id e.kids[i])=own→(zHf u.id b8 e.n (e.kids.take (i+1))).foldl adI l=(zI7 u.id e.kids[i]).foldl adI (if own then adI li e.n else li):=fun own ho=>by rw[hmt,jCg,jCg,hll,ho];cases own<;>rfl
  have whole1:∀own:Bool,(b8&&isS u.id e.kids[i])=own→(w||zCb u.id b8 (e.kids.take (i+1)))=(wi||zDW u.id e.kids[i] own):=fun own ho=>by rw[hwt,ho,←Bool.or_assoc,hww]
  have hput:=zRQ e.n li;by_cases c8:e.k=8
  ·by_cases ck:e.kids[i].k=2
   ·by_cases cr:e.kids[i].ref=u.id
    ·have ho:(b8&&isS u.id e.kids[i])=true:=by simp[hb8,zNg,c8,ck,cr]
     have e1:=fold1 _ ho;have e2:=whole1 _ ho;have hc:=hk true wi (adI li e.n);simp -implicitDefEqProofs [fvS,zT,h,hne,zBh h,c8,ck,cr,hD,yG,zAS,hput];refine jJ hc [0,1,2,3] (by decide) (by simp[fvS,hv]) (by simp[fvA,hv,zT,ck,cr]) ?_;simp -implicitDefEqProofs [fvS];exact zP (i+1) h (by omega) (zO [0,1,2,3,4] 0 (by decide) (by decide) (by simp[fvS,hv,zT,e1,e2,c8]) (by simp[hv,hw]))
    ·have ho:(b8&&isS u.id e.kids[i])=false:=by simp[zNg,cr]
     have e1:=fold1 _ ho;have e2:=whole1 _ ho;have hc:=hk false wi li;simp -implicitDefEqProofs [fvS,zT,h,hne,zBh h,c8,ck,cr,hD,yG,zAS];refine jJ hc [0,1,2,3] (by decide) (by simp[fvS,hv]) (by simp[fvA,hv,zT,ck]) ?_;simp -implicitDefEqProofs [fvS];exact zP (i+1) h (by omega) (zO [0,1,2,3,4] 0 (by decide) (by decide) (by simp[fvS,hv,zT,e1,e2,c8]) (by simp[hv,hw]))
   ·have ho:(b8&&isS u.id e.kids[i])=false:=by simp[zNg,ck]
    have e1:=fold1 _ ho;have e2:=whole1 _ ho;have hc:=hk false wi li;simp -implicitDefEqProofs [fvS,zT,h,hne,zBh h,c8,ck];refine jJ hc [0,1,2,3] (by decide) (by simp[fvS,hv]) (by simp[fvA,hv,zT,c8]) ?_;simp -implicitDefEqProofs [fvS];exact zP (i+1) h (by omega) (zO [0,1,2,3,4] 0 (by decide) (by decide) (by simp[fvS,hv,zT,e1,e2,c8]) (by simp[hv,hw]))
  ·have ho:(b8&&isS u.id e.kids[i])=false:=by simp[hb8,c8]
   have e1:=fold1 _ ho;have e2:=whole1 _ ho;have hc:=hk false wi li;simp -implicitDefEqProofs [fvS,zT,h,hne,zBh h,c8];refine jJ hc [0,1,2,3] (by decide) (by simp[fvS,hv]) (by simp[fvA,hv,zT,c8]) ?_;simp -implicitDefEqProofs [fvS];exact zP (i+1) h (by omega) (zO [0,1,2,3,4] 0 (by decide) (by decide) (by simp[fvS,hv,zT,e1,e2,c8]) (by simp[hv,hw]))
 ·have hie:i=e.kids.length:=by omega
  subst hie;rw[jAv];simp -implicitDefEqProofs [fvS,zT];exact zH [0,1,2,3] 0 (by decide) (by decide) (by simp[hv]) (by simp)
theorem zSD (D D':List A)(u:Slt)(hD:D.drop 8=.sl 1 (yG u)::D')(hv:∀rf g,vwL rf g D=D)(hn:qV D=D)(e:Exp)(ih:∀k∈e.kids,zTK D u.id k):zTK D u.id e:=by
 intro f w l;rw[zRm,zV5];refine zI Tryz.func58 rfl qFV (rs:=[]) (by kernel_rfl) ?_;unfold zYt;rw[←Bool.or_assoc,show (fvS D w l).length=4 from rfl];have hL:=qAW D D' u hD hv hn e ih f;have hl8:1≤D.length-8:=by rw[←jC3,hD]; simp
 by_cases c1:e.k=2
 ·by_cases c2:e.ref=u.id
  ·have key:(decide (e.k=2)&&decide (e.ref=u.id)&&!f) = !f:=by simp[c1,c2]
   rw[key];have hL':=hL (w||!f) l;generalize zFq 4 (.tup []) (fvS D (w||!f||zCb u.id (decide (e.k=8)) e.kids) ((zHf u.id (decide (e.k=8)) e.n e.kids).foldl adI l))=Q at hL' ⊢;cases w
   ·cases f
    ·simp -implicitDefEqProofs [fvA,fvS,zT,c1,c2,hD,yG,zAS];refine⟨_,_,zO [0,1,2,3,4] 0 (by decide) (by decide) ?_ ?_,hL'⟩
     ·simp[fvS,hv,zT,c1,c2]
     ·simp[hv]
    ·simp -implicitDefEqProofs [fvA,fvS,zT,c1,c2,hD,yG,zAS];refine⟨_,_,zO [0,1,2,3,4] 0 (by decide) (by decide) ?_ ?_,hL'⟩
     ·simp[fvS,hv,zT,c1,c2]
     ·simp[hv]
   ·simp -implicitDefEqProofs [fvA,fvS,zT,c1,c2,hD,yG,zAS];refine⟨_,_,zO [0,1,2,3,4] 0 (by decide) (by decide) ?_ ?_,hL'⟩
    ·simp[fvS,hv,zT,c1,c2]
    ·simp[hv]
  ·have key:(decide (e.k=2)&&decide (e.ref=u.id)&&!f)=false:=by simp[c2]
   rw[key,Bool.or_false];have hL':=hL w l;generalize zFq 4 (.tup []) (fvS D (w||zCb u.id (decide (e.k=8)) e.kids) ((zHf u.id (decide (e.k=8)) e.n e.kids).foldl adI l))=Q at hL' ⊢;simp -implicitDefEqProofs [fvA,fvS,zT,c1,c2,hD,yG,zAS];refine⟨_,_,zO [0,1,2,3,4] 0 (by decide) (by decide) ?_ ?_,hL'⟩
   ·simp[fvS,hv,zT,c1]
   ·simp[hv]
 ·have key:(decide (e.k=2)&&decide (e.ref=u.id)&&!f)=false:=by simp[c1]
  rw[key,Bool.or_false];have hL':=hL w l;generalize zFq 4 (.tup []) (fvS D (w||zCb u.id (decide (e.k=8)) e.kids) ((zHf u.id (decide (e.k=8)) e.n e.kids).foldl adI l))=Q at hL' ⊢;simp -implicitDefEqProofs [fvA,fvS,zT,c1,hD];refine⟨_,_,zO [0,1,2,3,4] 0 (by decide) (by decide) ?_ ?_,hL'⟩
  ·simp[fvS,hv,zT]
  ·simp[hv]
end Go.Proofs.YtdnelmeboihpkaaGreatDoor
