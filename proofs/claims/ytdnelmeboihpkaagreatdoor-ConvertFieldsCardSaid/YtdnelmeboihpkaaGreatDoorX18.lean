/-
  convert.reaches: a search that goes breadth first.
  convert.paths: the recursive closure that visits.
  convert.paths and Paths.
  spliceryref17's lists of IDs; the reference's Converters.
  convert.Field: what an expression reads of a slot.
-/
import Derived.Test.YtdnelmeboihpkaaGreatDoorX17
import Derived.Test.YtdnelmeboihpkaaGreatDoorX11
import Derived.Test.YtdnelmeboihpkaaGreatDoorX15
set_option linter.unusedVariables false
set_option maxHeartbeats 8000000
set_option maxRecDepth 100000
set_option linter.unusedSimpArgs false
open Go.Proofs.Tryz (prog)
namespace Go.Proofs.YtdnelmeboihpkaaGreatDoor
open Go.Abs
def mrk (l:List Id):List (List Int×A):=l.map fun x=>(zHz x,.lit (.bool true))
theorem zLy {x y:Id}:zHz x=zHz y↔x=y:=by simp[zHz,Id.eq_iff]
theorem zMC (x:Id):∀l:List Id,zBO (zHz x) (mrk l)=if x∈l then some (.lit (.bool true)) else none
 | []=>rfl
 | y::l=>by
  have ih:=zMC x l;simp only[mrk,jAc,zBO]at ih ⊢;by_cases h:y=x
  ·subst h; simp
  ·rw[if_neg fun e=>h (zLy.1 e),ih];simp[Ne.symm h]
theorem zLC (x:Id):∀l:List Id,x∉l→putI (zHz x) (.lit (.bool true)) (mrk l)=mrk (l++[x])
 | [],_=>rfl
 | y::l,h=>by simp only[jA5,not_or]at h;have ih:=zLC x l h.2;simp only[mrk,jAc,putI,jB5]at ih ⊢;rw[if_neg fun e=>h.1 (zLy.1 e).symm,ih]
theorem zPi (x:Id):∀l:List Id,x∉l→zIP (zHz x) (mrk (l++[x]))=mrk l
 | [],_=>by simp[mrk,zIP]
 | y::l,h=>by simp only[jA5,not_or]at h;have ih:=zPi x l h.2;simp only[mrk,jAc,zIP,jB5]at ih ⊢;rw[if_neg fun e=>h.1 (zLy.1 e).symm,ih]
theorem zLh (x:Id)(l:List Id):zFn (Value.bool false) false (zBO [x.a,x.b,x.c] (mrk l))=.lit (.bool (decide (x∈l))):=by have hf:=zMC x l;simp only[zHz]at hf;rw[hf];by_cases h:x∈l<;>simp[zFn,h,zFx,qR]
@[simp] theorem qQf {rf g}(l:List Id):(mrk l).map (fun p=>(p.1,vw rf g p.2))=mrk l:=by unfold mrk;rw[jCc];exact jBs fun x _=>by simp
theorem zKx {marked:List Id}{x:Id}:∀(l:List Edg) (M:List Id),(zEo marked x l M).length≤M.length+l.length
 | [],M=>by simp[zEo]
 | e::l,M=>by
  simp only[zEo,jAl];split
  ·have:=zKx (marked:=marked) (x:=x) l (M++[e.to]);simp only[jA7,jC2]at this;omega
  ·have:=zKx (marked:=marked) (x:=x) l M;omega
def qAm:K:=G [kO 5 1,kO 6 2,kMb 8 false] (G [⟨none,.mop (some 14) (.mk 3) []⟩,J 15 5 3,⟨none,.mop none (.set 3) [(kt 14),(kt 15),(.const (.bool true))]⟩,M 16 14,M 9 16] (G [J 17 5 3,⟨none,.brow (some 18) 31 3 1 [ki,ki,ki] [(0,3,(kt 17))]⟩,M 10 18] (Z (K.block 0 (K.loop (Z (G [M 19 10,kN 20 19,kBi 21 20 0 .gtr] (Y 21 ks (K.exit 0))) (K.block 1 (G [M 22 10,kXi 23 22 3 0,J 24 23 3,kZ 11 [ki,ki,ki],S 11 24 3] (G [M 25 10,⟨none,.rslc (some 26) (kt 25) 3 (some (kc 1)) none⟩,M 10 26] (Z (G [J 27 11 3,J 28 6 3,⟨none,.eqs (some 29) false [.i,.i,.i] (kt 27) (kt 28)⟩] (Y 29 (G [kMb 8 true] kr) ks)) (G [M 30 0,kN 31 30,kMi 32 0] (K.block 2 (K.loop (G [kB 33 32 31 .lss] (Z (Y 33 ks (K.exit 2)) (Z (K.block 3 (G [kX 34 30 32 9,J 35 34 9,kZ 13 [ki,ki,ki,ki,ki,ki,ki,ki,ki],S 13 35 9] (G [D 36 13 3,J 37 36 3,J 38 11 3,⟨none,.eqs (some 39) false [.i,.i,.i] (kt 37) (kt 38)⟩,M 40 39,T 40 true (M 41 9),T 40 true (D 42 13 6),T 40 true (J 43 42 3),⟨some (40,true),.mop (some 44) (.get 3 (.bool false) false) [(kt 41),(kt 43)]⟩,T 40 true (kR 45 44),kPf 46 40 45,M 47 46,T 47 true (M 48 3),T 47 true (D 49 13 6),T 47 true (J 50 49 3),⟨some (47,true),.mop (some 51) (.get 3 (.bool false) false) [(kt 48),(kt 50)]⟩,T 47 true (kR 52 51),kPf 53 47 52] (Y 53 (G [M 54 9,D 55 13 6,J 56 55 3,⟨none,.mop none (.set 3) [(kt 54),(kt 56),(.const (.bool true))]⟩] (K.ops [M 57 10,D 58 13 6,J 59 58 3,kd 60 31 3 1 [ki,ki,ki] [(0,3,(kt 59))],⟨none,.apq (some 61) 31 3 24 (kt 57) (kt 60)⟩,M 10 61])) ks)))) (K.ops [kBi 62 32 1 .add,
 M 32 62])))))))))))))) (G [kMb 8 false] kr))))
theorem qHT:zQ prog Tryz.f101.ntmps (Tryz.f101.body.getD .skip)=some qAm.erase:=by kernel_rfl
@[simp] theorem qLA:zB prog 101=true:=by kernel_rfl
open Classical in
theorem zRX (L:List Edg)(hL:L.length≤1000)(fro to:Id)(marked:List Id)(fr:Bool) :
 Ret prog 101 [.sl L.length (yH L),.agg (zG fro),.agg (zG to),.map 0] [.mp fr 3 (mrk marked)] (bl (decide (Rchs L to marked fro))) [.mp fr 3 (mrk marked)]:=by
 refine zH Tryz.func101 rfl qHT (rs:=[.slot 8]) (by kernel_rfl) ?_;unfold qAm;have hm1:putI [fro.a,fro.b,fro.c] (.lit (.bool true)) []=mrk [fro]:=rfl;simp -implicitDefEqProofs [zG,hm1];refine jR (S:=List Id×List Id×List Id) (fun s=>[(0,.sl L.length (yH L)),(3,.map 0),(5,.ptr 1 0),(6,.ptr 2 0),(8,bl false),(9,.map 3),(10,.win 4 (s.1.length+s.2.2.length) (s.1.length*3) s.2.2.length 3)])
  (fun s=>[.mp fr 3 (mrk marked),.box (zG fro),.box (zG to),.mp true 3 (mrk (s.2.1++s.2.2)),.row false 31 3 (s.1.length+s.2.2.length) (zS (s.1++s.2.2))])
  (fun s=>Bfs L to marked fro (s.2.1++s.2.2) s.2.1.length∧s.1.length≤s.2.1.length) (fun s=>L.length+1-s.2.1.length) ([],[],[fro]) ⟨Bfs.start L to marked fro,by simp⟩ ?_ ?_
 ·refine(zYa (t:=10) (l:=4) (m:=1) (sz:=3) (by simp) rfl).trans (zP [0,1,2,3,4] 0 (by decide) (by simp) (by simp[zG]) (by simp))
 rintro⟨junk,dn,live⟩ ⟨hb,hj⟩;simp only at hb hj;have hM:=hb.len;rw[jA7]at hM
 match hlive:live with
 | [] =>
  have hno:=hb.no (by simp);simp -implicitDefEqProofs;exact zL [0] 0 (by simp) (by simp) (by simp) (by simp[hno])
 | x::rest =>
  have hpos:(0:Int)<(rest.length:Int)+1:=by omega
  have hlt:junk.length*3+3≤(junk.length+(rest.length+1))*3:=by omega
  have hk:dn.length<(dn++x::rest).length:=by simp
  have hx:(dn++x::rest)[dn.length]=x:=by simp
  have hdr:(zS (junk++x::rest)).drop (junk.length*3)=zG x++zS rest:=by rw[zEX,List.drop_left,zCY]; rfl
  simp only[jAl]at hM;by_cases hto:x=to
  ·have hyes:=hb.yes hk (hx.trans hto);subst hto;simp -implicitDefEqProofs [hpos,hdr,zG,hlt];exact⟨by omega,zL [0] 0 (by simp) (by simp) (by simp) (by simp[hyes])⟩
  ·have hnx:=hb.next hk (by rw[hx]; exact hto);rw[hx]at hnx;simp -implicitDefEqProofs [hpos,hdr,zG,hlt,hto];refine⟨by omega,fun _=>?_⟩;have hsh:junk.length+1+rest.length=junk.length+(rest.length+1):=by omega
   refine jR (S:=Nat×List Id×List Id) (fun s=>[(0,.sl L.length (yH L)),(3,.map 0),(5,.ptr 1 0),(6,.ptr 2 0),(8,bl false),(9,.map 3),(10,.win 4 (s.2.1.length+s.2.2.length) (s.2.1.length*3) s.2.2.length 3),(11,.ptr 5 0),(30,.sl L.length (yH L)),(31,int L.length),(32,int s.1)])
    (fun s=>[.mp fr 3 (mrk marked),.box (zG fro),.box (zG to),.mp true 3 (mrk (dn++x::s.2.2)),.row false 31 3 (s.2.1.length+s.2.2.length) (zS (s.2.1++s.2.2)),.box (zG x)])
    (fun s=>s.1≤L.length∧zEo marked x (L.take s.1) (dn++x::rest)=dn++x::s.2.2∧s.2.1.length≤dn.length+1) (fun s=>L.length-s.1) (0,junk++[x],rest) ⟨by simp,by simp[zEo],by simp; omega⟩
    (zP [0,1,2,3,4,5] 0 (by decide) (by simp) (by simp[zG,hsh]) (by simp[jAw,hsh])) ?_
   rintro⟨j,jk,lv⟩ ⟨hjl,hN,hjk⟩;simp only at hjl hN hjk;have hlen:=zKx (marked:=marked) (x:=x) (L.take j) (dn++x::rest);rw[hN]at hlen;simp only[jA7,jAl,jAp]at hlen;by_cases h:j<L.length
   ·have hw:=zAz j (by omega);have hsn:=zMt marked x L[j] (L.take j) (dn++x::rest);rw[←jA9 h,hN]at hsn;have hg1:=zLh L[j].to (dn++x::lv);have hg2:=zLh L[j].to marked;have hput:=zLC L[j].to (dn++x::lv);have hMj:dn++x::(lv++[L[j].to])=dn++x::lv++[L[j].to]:=by simp
    have hcs:zS (lv++[L[j].to])=zS lv++zG L[j].to:=by rw[yT]; rfl
    have hdl:(zS (jk++lv)).drop (jk.length*3)=zS lv:=by rw[zEX,List.drop_left]
    simp only[zHz]at hput;generalize hM0:dn++x::lv=Mj at *
    by_cases c1:L[j].fro=x
    ·by_cases c2:L[j].to∈Mj
     ·rw[if_neg (by simp[c2])]at hsn;simp -implicitDefEqProofs [h,zB0 h,zBo,zG,c1,hg1,c2];exact zO (j+1,jk,lv) ⟨h,by rw[hsn,hM0],hjk⟩ (by simp only; omega) (zP [0,1,2,3,4,5] 0 (by decide) (by simp) (by simp[zG,hM0]) (by simp[hw]))
     ·by_cases c3:L[j].to∈marked
      ·rw[if_neg (by simp[c3])]at hsn;simp -implicitDefEqProofs [h,zB0 h,zBo,zG,c1,hg1,c2,hg2,c3];exact zO (j+1,jk,lv) ⟨h,by rw[hsn,hM0],hjk⟩ (by simp only; omega) (zP [0,1,2,3,4,5] 0 (by decide) (by simp) (by simp[zG,hM0]) (by simp[hw]))
      ·rw[if_pos ⟨c1,c2,c3⟩]at hsn;simp -implicitDefEqProofs [h,zB0 h,zBo,zG,c1,hg1,c2,hg2,c3,hput c2];refine⟨?_,?_,?_⟩
       ·exact⟨rfl,by omega,rfl,rfl,rfl,rfl,by omega,by simp[maxLen]; omega,by omega⟩
       ·exact zO (j+1,jk,lv++[L[j].to]) ⟨h,by rw[hsn,hMj],hjk⟩ (by simp only; omega) (zP [0,1,2,3,4,5] 0 (by decide) (by simp) (by simp[zG,hMj,yT,jBh]) (by simp[hw,jBh]))
       ·exact zO (j+1,[],lv++[L[j].to]) ⟨h,by rw[hsn,hMj],by simp⟩ (by simp only; omega) (zP [0,1,2,3,7,5] 0 (by decide) (by simp) (by simp[zG,hMj,hdl,yT]) (by simp[hw]))
    ·rw[if_neg (by simp[c1])]at hsn;simp -implicitDefEqProofs [h,zB0 h,zBo,zG,c1];exact zO (j+1,jk,lv) ⟨h,by rw[hsn,hM0],hjk⟩ (by simp only; omega) (zP [0,1,2,3,4,5] 0 (by decide) (by simp) (by simp[zG,hM0]) (by simp[hw]))
   ·have hjl':j=L.length:=by omega
    subst hjl';rw[jB0]at hN;rw[hN]at hnx;simp -implicitDefEqProofs;exact zO (jk,dn++[x],lv) ⟨by simpa using hnx,by simpa using hjk⟩ (by simp only[jA7,jC2]; omega) (zP [0,1,2,3,4] 0 (by decide) (by simp) (by simp[zG]) (by simp))
end Go.Proofs.YtdnelmeboihpkaaGreatDoor
namespace Go.Abs
section
variable {P:Program}{env:Env}{d:Option Nat} {σ : St}
theorem zSF {K:Env→St→Prop}{f:FuncId}{args args':List A}{r:A}{s0 s1:St}(h:Ret P f args s0 r (s0++s1))(js:List Nat)(hjs:js.Nodup)(hlen:s0.length=js.length)(ho:yQ σ jL (zX js) js s0)(ha:zBB js args' args)
 (hput:qO σ js (s0.map (zAN js σ.length)) = σ)(hq:K (env.put d (ren js σ.length r)) (σ++s1.map (zAN js σ.length))):zIA P σ d K f args' env :=
 ⟨_,_,zAq.append _ _,zAZ h js hjs ho ha ⟨rfl,by
  have:=zH5 (js:=js) (ks:=[]) (s:=σ) (a:=s0.map (zAN js σ.length)) (b:=s1.map (zAN js σ.length)) (by simpa using hlen);rw[jBw,hput]at this;rw[jCk,this,qO]⟩,hq⟩
end
end Go.Abs
namespace Go.Proofs.YtdnelmeboihpkaaGreatDoor
open Go.Abs
theorem zPg (l:List Id)(h:l≠[])(hb:l.length≤1000000):Ret prog 100 [.row 0 l.length] [.row false 31 3 l.length (zS l)] (.row 1 l.length) ([.row false 31 3 l.length (zS l)]++[.row false 31 3 l.length (zS l)]):=by
 refine zH Tryz.func100 rfl zVB (rs:=[.slot 2]) (by kernel_rfl) ?_;unfold zQM;have h0:l.length≠0:=by simpa using h
 simp -implicitDefEqProofs [h,h0,zU1];refine⟨⟨by simp[maxLen]; omega,by omega⟩,?_⟩;exact zL [0,1] 0 (by decide) (by simp) (by simp) (by simp)
theorem zNH:Ret prog 100 [.row 0 0] [.row false 31 3 0 []] (.sl 0 []) ([.row false 31 3 0 []]++[]):=by refine zH Tryz.func100 rfl zVB (rs:=[.slot 2]) (by kernel_rfl) ?_;unfold zQM;simp -implicitDefEqProofs [zU1];exact⟨zL [0] 0 (by simp) (by simp) (by simp) (by simp),zL [0] 0 (by simp) (by simp) (by simp) (by simp)⟩
@[simp] theorem zK5:∀(l:List Id) (k:Nat),zBq k (zS l)=true
 | [],_=>rfl
 | d::l,k=>by rw[zCY]; simp[zK5 l k]
def zHb (L:List Edg)(to:Id)(n:Nat)(at_:Id)(met:List Id)(e:Edg):List (List Id):=if e.fro=at_∧e.to∉met then (zBD L to n e.to (met++[e.to])).map (e.id::·) else []
theorem zRo {L:List Edg}{to:Id}{n:Nat}{at_:Id}{met:List Id}(h:at_≠to)(hn:zJJ L met≤n):zBD L to n at_ met=L.flatMap (zHb L to (n-1) at_ met):=by
 cases n with
 | zero =>
  unfold zBD;rw[if_neg h];symm;rw[List.flatMap_eq_nil_iff];intro e he;unfold zHb;rw[if_neg];rintro⟨_,h'⟩;have:=zE3 he h';omega
 | succ n =>
  unfold zBD;rw[if_neg h];rfl
theorem zUH {L:List Edg}{to:Id}{n:Nat}{at_:Id}{met:List Id}{e:Edg}(he:e∈L)(hn:zJJ L met≤n)(h:e.fro≠at_∨e.to∈met∨¬Rchs L to met e.to):zHb L to (n-1) at_ met e=[]:=by
 unfold zHb;by_cases hc:e.fro=at_∧e.to∉met
 ·rw[if_pos hc];rcases h with h | h | h
  ·exact(h hc.1).elim
  ·exact(hc.2 h).elim
  ·have hlt:=zE3 he hc.2;have:=zKS (n-1) e.to (met++[e.to]) (L:=L) (to:=to) (by omega);rw[List.map_eq_nil_iff];refine Decidable.byContradiction fun h0=>h ?_
   exact(this.1 h0).mono fun x hx=>jBf _ hx
 ·rw[if_neg hc]
def qAp:K:=K.wk (G [kO 7 0,kMb 8 false] (Z (G [J 12 7 3,J 13 1 3,⟨none,.eqs (some 14) false [.i,.i,.i] (kt 12) (kt 13)⟩] (Y 14 (Z (K.dops [(0,1,L 15 2 1),(1,1,L 16 3 1),(2,3,kC 17 100 [(kt 16)]),(3,4,⟨none,.call (some 18) (kt 15) [(kt 17)]⟩),(4,0,M 8 18)]) kr) ks)) (Z (G [L 19 4 1,kN 20 19,kMi 21 0] (K.block 0 (K.loop (G [kB 22 21 20 .lss] (Z (Y 22 ks (K.exit 0)) (Z (K.block 1 (G [kX 23 19 21 9,J 24 23 9,kZ 10 [ki,ki,ki,ki,ki,ki,ki,ki,ki],S 10 24 9] (Z (G [D 25 10 3,J 26 25 3,J 27 7 3,⟨none,.eqs (some 28) true [.i,.i,.i] (kt 26) (kt 27)⟩,M 29 28,T 29 false (L 30 5 1),T 29 false (D 31 10 6),T 29 false (J 32 31 3),⟨some (29,false),.mop (some 33) (.get 3 (.bool false) false) [(kt 30),(kt 32)]⟩,kPt 34 29 33,M 35 34,T 35 false (L 36 4 1),T 35 false (D 37 10 6),T 35 false (J 38 37 3),T 35 false (J 39 1 3),T 35 false (L 40 5 1),T 35 false (kC 41 101 [(kt 36),(kt 38),(kt 39),(kt 40)]),T 35 false (kR 42 41),kPt 43 35 42] (Y 43 (K.exit 1) ks)) (G [L 44 5 1,D 45 10 6,J 46 45 3,⟨none,.mop none (.set 3) [(kt 44),(kt 46),(.const (.bool true))]⟩] (G [L 47 3 1,D 48 10 0,J 49 48 3,kd 50 31 3 1 [ki,ki,ki] [(0,3,(kt 49))],kP 51 31 3 24 47 50,S 3 51 1] (G [L 52 6 1,D 53 10 6,J 54 53 3,⟨none,.call (some 55) (kt 52) [(kt 54)]⟩,M 11 55] (G [L 56 3 1,L 57 3 1,kN 58 57,kBi 59 58 1 .sub,⟨none,.shr (some 60) (kt 56) 3 (kt 59)⟩,S 3 60 1] (G [L 61 5 1,D 62 10 6,J 63 62 3,⟨none,.mop none (.del 3) [(kt 61),(kt 63)]⟩] (G [M 64 11,kR 65 64] (Y 65 (G [kMb 8 false] kr) ks)))))))))) (K.ops [kBi 66 21 1 .add,
 M 21 66]))))))) (G [kMb 8 true] kr))))
def qJm:Nat→Option (List (Nat×Nat)):=fun r=>match r with | 2=>some [(0,1),(1,1),(2,3),(3,4),(4,0)] | _=>none
theorem qHW:qD prog Tryz.f99.ntmps qJm (Tryz.f99.body.getD .skip)=some qAp.erase:=by kernel_rfl
@[simp] theorem zYx:zB prog 99=true:=by kernel_rfl
def zDz (b m:Nat)(L:List Edg)(to:Id)(fr:Bool)(met:List Id)(l n:Nat):St :=
 [.box [yv b],.box [.sl L.length (yH L)],.mp fr 3 (mrk met),.box [.map (m+2)],.box [.row (m+l) n],.box [.clo 99 [] [.rptr (zG to),.ptr m 0,.ptr (m+4) 0,.ptr (m+1) 0,.ptr (m+3) 0,.ptr (m+5) 0]]]
def zMs (b m:Nat)(L:List Edg)(to:Id)(fr:Bool)(met path:List Id):St:=zDz b m L to fr met 6 path.length++[AObj.row false 31 3 path.length (zS path)]
def zKm (b m:Nat)(L:List Edg)(to:Id)(met path:List Id):St:=zDz b m L to false met 7 path.length++[AObj.dead,AObj.row false 31 3 path.length (zS path)]
theorem zXZ {n0 b m:Nat}{L:List Edg}{to:Id}{fr:Bool}{met path:List Id}{S:St}(hS:S.length=m){env:Env}:zA7 n0 env (S++zKm b m L to met path) env (S++zMs b m L to fr met path):=by
 have h1:=zZV (n0:=n0) (env:=env) (σ:=S++zMs b m L to fr met path) (j:=m+4) (o:=0) (l:=m+6) (n:=path.length) (sz:=3) (e:=31) (ds:=[.row (m+6) path.length]) (cs:=zS path)
  (by rw[zAb hS]; rfl) rfl (by rw[zAb hS]; rfl)
 have e1:((S++zMs b m L to fr met path).set (m+6) .dead).set (m+4) (.box ([A.row (m+6) path.length].set 0 (.row (S++zMs b m L to fr met path).length path.length)))++[AObj.row false 31 3 path.length (zS path)] =
  S++(zDz b m L to fr met 7 path.length++[AObj.dead,AObj.row false 31 3 path.length (zS path)]):=by
  rw[zAQ hS,zAQ hS,jB3,jA7,hS];simp[zMs,zDz]
 rw[e1]at h1;have h2:=zLW (n0:=n0) (env:=env) (σ:=S++(zDz b m L to fr met 7 path.length++[AObj.dead,AObj.row false 31 3 path.length (zS path)])) (l:=m+2) (nk:=3) (fr:=fr) (es:=mrk met) (by rw[zAb hS]; rfl);have e2:(S++(zDz b m L to fr met 7 path.length++[AObj.dead,AObj.row false 31 3 path.length (zS path)])).set (m+2) (.mp false 3 (mrk met))=S++zKm b m L to met path:=by rw[zAQ hS];simp[zKm,zDz]
 rw[e2]at h2;exact h1.trans h2
def zKu (m:Nat)(at_ to:Id):List A:=[.agg (zG at_),.rptr (zG to),.ptr m 0,.ptr (m+4) 0,.ptr (m+1) 0,.ptr (m+3) 0,.ptr (m+5) 0]
theorem zUM {L:List Edg}(hL:L.length≤1000)(to:Id)(b m:Nat)(T:Nat→St)(X:List (List A))(hT:∀i,i≤X.length→Cl m (T i))
 (hY:∀i (h:i<X.length),zCy prog b X[i] (T i) fun o τ=>o=.ret (.lit (.bool true))∧τ = T (i+1)) :
 ∀(n:Nat) (at_:Id) (met path:List Id) (fr:Bool) (i:Nat),zJJ L met≤n→path.length+n≤2000→i+(zBD L to n at_ met).length≤X.length →
  (∀q (hq:q<(zBD L to n at_ met).length) (h:i+q<X.length),X[i+q]=[.sl (path++(zBD L to n at_ met)[q]).length (zS (path++(zBD L to n at_ met)[q]))]) →
  Ret prog 99 (zKu m at_ to) (T i++zMs b m L to fr met path) (bl true) (T (i+(zBD L to n at_ met).length)++zKm b m L to met path):=by
 intro n;induction n using Nat.strongRecOn with
 | ind n ih =>
 intro at_ met path fr i hn hpn hi hX
 have hTi:=hT i (by omega);have hTe:=hT (i+(zBD L to n at_ met).length) hi;have hlen0:(T i++zMs b m L to fr met path).length=m+7:=by rw[jA7,hTi.1]; simp[zMs,zDz]
 refine qP Tryz.func99 rfl qHW (rs:=[.slot 8]) (by kernel_rfl) ?_;unfold qAp;rw[qE3,hlen0];rw[qE4];refine⟨_,_,zXZ hTi.1,?_⟩;unfold zKu;simp -implicitDefEqProofs [zKm,zDz,hTi.1,zAb hTi.1,zAm hTi.1,zG];by_cases hat:at_=to
 ·have hE:zBD L to n at_ met=[[]]:=by subst hat; cases n<;>simp[zBD]
  subst hat;rw[hE]at hX hTe hi;simp only[jC2]at hX hTe hi;have hyi:=hY i (by omega);have hXi:=hX 0 (by omega) (by omega);simp only[jBo,jDi,jBw]at hXi;rw[hXi]at hyi;rw[hE,jC2];simp -implicitDefEqProofs [hTi.1,zAb hTi.1,zAm hTi.1,zHK];by_cases hp:path=[]
  ·subst hp;refine zSF zNH [m+7] (by simp) rfl (by simp[zAb hTi.1]) (by simp) (by simp[zAQ hTi.1]) ?_;simp -implicitDefEqProofs [hTi.1,zAb hTi.1,zAm hTi.1];refine⟨_,_,zIK hTi hTe hyi (by simp) ⟨rfl,rfl⟩,?_⟩;exact zJq (own':=zKm b m L at_ met []) hTe rfl [0,1,2,3,4,5,6,7] 0 (by decide) (by decide) (by simp[zKm,zDz,zG]) (by simp)
  ·refine zSF (zPg path hp (by omega)) [m+7] (by simp) rfl (by simp[zAb hTi.1]) (by simp) (by simp[zAQ hTi.1]) ?_;simp -implicitDefEqProofs [hTi.1,zAb hTi.1,zAm hTi.1];refine exY (k:=9) rfl hTi hTe (zK5 path 0) hyi ?_;simp -implicitDefEqProofs;exact zJq (own':=zKm b m L at_ met path) hTe rfl [0,1,2,3,4,5,6,7] 0 (by decide) (by decide) (by simp[zKm,zDz,zG]) (by simp)
 ·have hE:=zRo (L:=L) (n:=n) (met:=met) hat hn;generalize hEE:zBD L to n at_ met=E at *
  have hspl:∀j,E=(L.take j).flatMap (zHb L to (n-1) at_ met)++(L.drop j).flatMap (zHb L to (n-1) at_ met):=fun j=>by rw[←jCh,jCb]; exact hE
  obtain⟨cnt,hcd⟩:∃cnt:Nat→Nat,∀j,cnt j=((L.take j).flatMap (zHb L to (n-1) at_ met)).length:=⟨_,fun _=>rfl⟩;have hcnt:∀j,cnt j≤E.length:=fun j=>by rw[hcd,hspl j,jA7]; omega
  have hc0:cnt 0=0:=by rw[hcd]; simp
  have hcL:cnt L.length=E.length:=by rw[hcd,jB0,hE]
  simp -implicitDefEqProofs [hTi.1,zAb hTi.1,zAm hTi.1,hat];intro hlm;refine jR (S:=Nat) (fun j=>[(1,.rptr (zG to)),(2,.ptr m 0),(3,.ptr (m+4) 0),(4,.ptr (m+1) 0),(5,.ptr (m+3) 0),(6,.ptr (m+5) 0),(7,.ptr (m+8) 0),(19,.sl L.length (yH L)),(20,int L.length),(21,int j)])
   (fun j=>T (i+cnt j)++(zDz b m L to false met 7 path.length++[AObj.dead,AObj.row false 31 3 path.length (zS path),AObj.box (zG at_)]))
   (fun j=>j≤L.length) (fun j=>L.length-j) 0 (by simp) ?_ ?_
  ·rw[hc0];exact zNy hTi rfl [0,1,2,3,4,5,6,7,8] 0 (by decide) (by decide) (by simp[zDz,zG]) (by simp[zG])
  intro j hj;have hTj:=hT (i+cnt j) (by have:=hcnt j; omega);by_cases h:j<L.length
  ·have hw:=zAz j (by omega);have hel:L[j]∈L:=jA3 h;have hsucc:cnt (j+1)=cnt j+(zHb L to (n-1) at_ met L[j]).length:=by rw[hcd,hcd,jA9 h,jCh,List.flatMap_singleton,jA7]
   have hle:=hcnt (j+1);have hg:=zLh L[j].to met;have hnone:=zUH (L:=L) (to:=to) (at_:=at_) (met:=met) hel hn;by_cases c1:L[j].fro=at_
   ·by_cases c2:L[j].to∈met
    ·rw[hnone (.inr (.inl c2)),jBu,jBo]at hsucc;simp -implicitDefEqProofs [zDz,hTj.1,zAb hTj.1,zAm hTj.1,zAQ hTj.1,h,zB0 h,zBo,zG,c1,c2,hg];refine zO (j+1) h (by omega) ?_;rw[hsucc];exact zNy hTj rfl [0,1,2,3,4,5,6,7,8] 0 (by decide) (by decide) (by simp[zDz,zG]) (by simp[zG,hw])
    ·simp -implicitDefEqProofs [zDz,hTj.1,zAb hTj.1,zAm hTj.1,zAQ hTj.1,h,zB0 h,zBo,zG,c1,c2,hg];refine jO (zRX L hL L[j].to to met false) [m+2] (by simp) (by simp[zAb hTj.1]) (by simp[zG]) ?_;simp -implicitDefEqProofs [hTj.1,zAb hTj.1,zAm hTj.1,zAQ hTj.1];by_cases c3:Rchs L to met L[j].to
     ·have hlt:=zE3 hel c2;have hpe:zHb L to (n-1) at_ met L[j]=(zBD L to (n-1) L[j].to (met++[L[j].to])).map (L[j].id::·):=by rw[zHb,if_pos ⟨c1,c2⟩]
      have hput:=zLC L[j].to met c2;have hdel:=zPi L[j].to met c2;simp only[zHz]at hput hdel;rw[hpe,jB2]at hsucc;have hsucc':i+cnt (j+1)=i+cnt j+(zBD L to (n-1) L[j].to (met++[L[j].to])).length:=by omega
      have hcall:=ih (n-1) (by omega) L[j].to (met++[L[j].to]) (path++[L[j].id]) false (i+cnt j) (by omega) (by simp; omega) (by omega) (fun q hq hqx=>by
       have h2:cnt j+q<E.length:=by omega
       have:=hX (cnt j+q) h2 (by omega);have hEq:E[cnt j+q]=L[j].id::(zBD L to (n-1) L[j].to (met++[L[j].to]))[q]:=by
        have h3:E[cnt j+q]?=some (L[j].id::(zBD L to (n-1) L[j].to (met++[L[j].to]))[q]):=by rw[hspl j,jAr (by rw[←hcd]; omega),←hcd,Nat.add_sub_cancel_left,jAv h,jBi,hpe,jAd (by simpa using hq),jCu,jA2 hq];rfl
        rw[jA2 h2]at h3;exact jAs h3
       rw[hEq]at this
       simpa [jBh] using this)
      have hT1:=hT (i+cnt j+(zBD L to (n-1) L[j].to (met++[L[j].to])).length) (by omega);simp -implicitDefEqProofs [hTj.1,zAb hTj.1,zAm hTj.1,zAQ hTj.1,c3,hput];refine⟨⟨by simp[maxLen]; omega,by omega⟩,?_⟩;have hcs:zS (path++[L[j].id])=zS path++[.lit (.int .i64 L[j].id.a),.lit (.int .i64 L[j].id.b),.lit (.int .i64 L[j].id.c)]:=by rw[yT]; rfl
      have htk:(zS path++[A.lit (.int .i64 L[j].id.a),.lit (.int .i64 L[j].id.b),.lit (.int .i64 L[j].id.c)]).take (path.length*3)=zS path:=by rw[jBr (by simp)];exact jAk (by simp)
      refine zVM hTj hT1 hcall [0,1,2,3,4,5,7] (by decide) (by simp[zMs,zDz,zG,hcs]) (by simp[zKu,zG]) ?_;have hwp:IntKind.i64.wrap (path.length:Int)=path.length:=IntWalk.i64_in _ (by omega);simp -implicitDefEqProofs [zKm,zDz,zG,hcs,hT1.1,zAb hT1.1,zAm hT1.1,zAQ hT1.1,hdel,hwp,htk];refine⟨by omega,?_⟩;refine zO (j+1) h (by omega) ?_;rw[hsucc'];exact zNy hT1 rfl [0,1,2,3,4,5,6,11,8] 0 (by decide) (by decide) (by simp[zDz,zG]) (by simp[zG,hw])
     ·rw[hnone (.inr (.inr c3)),jBu,jBo]at hsucc;simp -implicitDefEqProofs [c3];refine zO (j+1) h (by omega) ?_;rw[hsucc];exact zNy hTj rfl [0,1,2,3,4,5,6,7,8] 0 (by decide) (by decide) (by simp[zDz,zG]) (by simp[zG,hw])
   ·rw[hnone (.inl c1),jBu,jBo]at hsucc;simp -implicitDefEqProofs [zDz,hTj.1,zAb hTj.1,zAm hTj.1,zAQ hTj.1,h,zB0 h,zBo,zG,c1];refine zO (j+1) h (by omega) ?_;rw[hsucc];exact zNy hTj rfl [0,1,2,3,4,5,6,7,8] 0 (by decide) (by decide) (by simp[zDz,zG]) (by simp[zG,hw])
  ·have hj':j=L.length:=by omega
   subst hj';rw[hcL]at hTj ⊢;simp -implicitDefEqProofs [hTj.1,zAb hTj.1,zAm hTj.1];exact zJq (own':=zKm b m L to met path) hTe rfl [0,1,2,3,4,5,6,7] 0 (by decide) (by decide) (by simp[zKm,zDz,zG]) (by simp)
def jU (l:List (List Id)):List A:=l.map fun q=>.sl q.length (zS q)
@[simp] theorem qAT (l:List (List Id)):(jU l).length=l.length:=by simp[jU]
@[simp] theorem qAU:jU []=[]:=rfl
theorem zKB (a b:List (List Id)):jU (a++b)=jU a++jU b:=by simp[jU]
theorem zFb (q:List Id)(l:List (List Id)):jU (q::l)=.sl q.length (zS q)::jU l:=rfl
theorem zEr:∀(l:List (List Id)),qJ (jU l)
 | []=>qJ.nil
 | q::l=>qJ.sl (zB1 q) (zEr l)
@[simp] theorem zZt (l:List (List Id)):jF (jU l)=jU l:=(zEr l).1
@[simp] theorem qEs {rf g}(l:List (List Id)):vwL rf g (jU l)=jU l:=(zEr l).2 _ _
@[simp] theorem zOS:∀(l:List (List Id)) (k:Nat),zBq k (jU l)=true
 | [],_=>rfl
 | q::l,k=>by rw[zFb]; simp[zOS l k]
theorem zDr {l:List (List Id)}{i:Nat}(h:i<l.length):(jU l).drop i=.sl l[i].length (zS l[i])::jU (l.drop (i+1)):=by rw[jU,←List.map_drop,jAv h]; rfl
@[simp] theorem qCi (l:List Md)(k:Nat):zBq k (jE l)=true:=(zFa l).bnd k
@[simp] theorem qCh (l:List Dfn)(k:Nat):zBq k (qI l)=true:=(zEV l).bnd k
@[simp] theorem qHD (d:Id)(k:Nat):zBq k (zG d)=true:=by simp[zG]
def qAl:K:=G [kO 3 0,kO 4 1,kO 5 2,⟨none,.mov (some 6) (.const .nilFunc)⟩] (G [⟨none,.clo (some 7) 97 [] [(kt 3),(kt 4),(kt 5)]⟩,M 6 7] kr)
theorem qHS:zQ prog Tryz.f53.ntmps (Tryz.f53.body.getD .skip)=some qAl.erase:=by kernel_rfl
@[simp] theorem qL9:zB prog 53=true:=by kernel_rfl
theorem zTP (p:Prg)(fro to:Id):Ret prog 53 [.agg (zK p),.agg (zG fro),.agg (zG to)] [] (.clo 97 [] [.rptr (zK p),.rptr (zG fro),.rptr (zG to)]) []:=by refine zH Tryz.func53 rfl qHS (rs:=[.slot 6]) (by kernel_rfl) ?_;unfold qAl;simp -implicitDefEqProofs [zK,zG];exact zA 1 (by simp)
def qAk:K:=G [kO 4 0] (G [J 9 1 2,kC 10 98 [(kt 9)],kZ 5 [kl],S 5 10 1] (G [⟨none,.mop (some 11) (.mk 3) []⟩,J 12 2 3,⟨none,.mop none (.set 3) [(kt 11),(kt 12),(.const (.bool true))]⟩,M 13 11,kZ 6 [(.map none)],S 6 13 1] (G [kZ 7 [kl]] (G [kZ 8 [.nilFunc]] (G [⟨none,.clo (some 14) 99 [] [(kt 3),(kt 4),(kt 7),(kt 5),(kt 6),(kt 8)]⟩,S 8 14 1] (K.wk (K.ops [L 15 8 1,J 16 2 3,⟨none,.call (some 17) (kt 15) [(kt 16)]⟩])))))))
theorem qHR:zQ prog Tryz.f97.ntmps (Tryz.f97.body.getD .skip)=some qAk.erase:=by kernel_rfl
@[simp] theorem zYw:zB prog 97=true:=by kernel_rfl
@[simp] theorem qLQ:zB prog 99=true:=zYx
def zA0 (p:Prg)(fro to:Id):List (List Id):=zBD (zBj p) to (zBj p).length fro [fro]
theorem zRm {p:Prg}{hs:List Hd}(hf:Fit p hs):(zBj p).length≤100:=by
 have h1:(zBj p).length=(zDi p).length:=by rw[←zGz hf]; exact(zCR _).length_eq
 have h2:=jDl yJ p.defs;have h3:=hf.len8;unfold zDi at h1;omega
theorem zRT {p:Prg}{hs:List Hd}(hf:Fit p hs)(fro to:Id):zS1 prog 97 [] [.rptr (zK p),.rptr (zG fro),.rptr (zG to)] ((zA0 p fro to).map fun q=>[.sl q.length (zS q)]):=by
 refine zGh fun b m T hT hY=>?_
 have h0:=hT 0 (jB _);have hn:=hT _ (jA _);have hP:=eP p;have hL:=zRm hf;have hm1:putI [fro.a,fro.b,fro.c] (.lit (.bool true)) []=mrk [fro]:=rfl;have hvis:=zUM (L:=zBj p) (by omega) to b m T _ hT hY (zBj p).length fro [fro] [] true 0 (zWA _) (by simp; omega) (by simp[zA0]) (fun q hq hqx=>by simp[zA0]);refine zH Tryz.func97 rfl qHR (rs:=[]) (by kernel_rfl) ?_;unfold qAk;simp -implicitDefEqProofs [h0.1,zAm h0.1,hP];refine qE (zWi hf) (by simp[hP]) (by simp) ?_;simp -implicitDefEqProofs [h0.1,zAb h0.1,zAm h0.1,zAQ h0.1,zI3 h0.1,zG,hm1,jBh];have hw:=zA9 (n0:=m) (env:=qG [(2,.rptr (zG fro)),(8,.ptr (m+5) 0)]) (l:=m+4) (o:=0) (σ:=T 0++[AObj.box [yv b],.box [.sl (zBj p).length (yH (zBj p))],.mp true 3 (mrk [fro]),.box [.map (m+2)],.box [.nil],
  .box [.clo 99 [] [.rptr (zG to),.ptr m 0,.ptr (m+4) 0,.ptr (m+1) 0,.ptr (m+3) 0,.ptr (m+5) 0]]]) (by rw[zAb h0.1]; rfl) rfl 31 3
 rw[zAQ h0.1,jB3,jA7,h0.1]at hw;refine⟨_,_,(zNy (c:=0) h0 rfl [0,1,2,3,4,5] 0 (by simp) (by decide) (by simp[zG]) (by simp[zG])).trans hw,?_⟩;simp -implicitDefEqProofs [h0.1,zAb h0.1,zAm h0.1];rw[jAt]at hvis;have hn':Cl m (T (zBD (zBj p) to (zBj p).length fro [fro]).length):=by simpa [zA0] using hn
 refine zVM h0 hn' hvis [0,1,2,3,4,5,6] (by decide) (by simp[zMs,zDz,zG]) (by simp[zKu,zG]) ?_;simp -implicitDefEqProofs;exact zOw hn' (by simp)
def qGH:K:=G [kO 3 0,kO 4 1,kO 5 2,kZ 6 [kl],kZ 7 [ki]] (Z (G [J 10 3 2,J 11 4 3,kC 12 52 [(kt 10),(kt 11)],kR 13 12,M 14 13,T 14 false (J 15 3 2),T 14 false (J 16 5 3),T 14 false (kC 17 52 [(kt 15),(kt 16)]),T 14 false (kR 18 17),kPt 19 14 18] (Y 19 (G [⟨none,.st none (kt 6) (.const kl) 1⟩,⟨none,.st none (kt 7) (kc 6) 1⟩] kr) ks)) (G [kZ 8 [kl]] (Z (G [J 20 3 2,J 21 4 3,J 22 5 3,kC 23 53 [(kt 20),(kt 21),(kt 22)]] (K.block 0 (K.rng (kt 23) [24] (K.ops [M 9 24]) (K.block 1 (Z (G [L 25 8 1,kN 26 25,kQi 27 26 64 false] (Y 27 (G [⟨none,.st none (kt 6) (.const kl) 1⟩,⟨none,.st none (kt 7) (kc 4) 1⟩] kr) ks)) (K.ops [L 28 8 1,M 29 9,kd 30 28 1 1 [kl] [(0,1,(kt 29))],kP 31 28 1 24 28 30,S 8 31 1])))))) (G [L 32 8 1,S 6 32 1,⟨none,.st none (kt 7) (kc 0) 1⟩] kr))))
theorem qNT:zQ prog Tryz.f20.ntmps (Tryz.f20.body.getD .skip)=some qGH.erase:=by kernel_rfl
@[simp] theorem qO5:zB prog 20=true:=by kernel_rfl
def zDL (p:Prg)(fro to:Id):A:=if zBr p fro=true∧zBr p to=true then .tup [.sl (zA0 p fro to).length (jU (zA0 p fro to)),int 0] else .tup [.sl 0 [],int 6]
theorem zKv {p:Prg}{hs:List Hd}(hf:Fit p hs)(fro to:Id)(h64:(zA0 p fro to).length≤64):Ret prog 20 [.agg (zK p),.agg (zG fro),.agg (zG to)] [] (zDL p fro to) []:=by
 have hP:=eP p;refine zH Tryz.func20 rfl qNT (rs:=[.cell 6 1 false,.cell 7 1 false]) (by kernel_rfl) ?_;unfold qGH;simp -implicitDefEqProofs [hP,zG];refine qE (zNz p fro) (by simp[hP,zG]) (by simp) ?_;by_cases h1:zBr p fro=true
 ·simp -implicitDefEqProofs [h1];refine qE (zNz p to) (by simp[hP,zG]) (by simp) ?_;by_cases h2:zBr p to=true
  ·simp -implicitDefEqProofs [h2];refine qE (zTP p fro to) (by simp[hP,zG]) (by simp[hP,zG]) ?_;simp -implicitDefEqProofs;refine⟨[(6,.ptr 3 0),(7,.ptr 4 0),(8,.ptr 5 0),(23,.clo 97 [] [.rptr (zK p),.rptr (zG fro),.rptr (zG to)])],7,(zA0 p fro to).map (fun q=>[.sl q.length (zS q)]),
    fun j=>[.box (zK p),.box (zG fro),.box (zG to),.box [.sl 0 []],.box [int 0],.box [.row 6 j],.row false 28 1 j (jU ((zA0 p fro to).take j))],97,[],[.rptr (zK p),.rptr (zG fro),.rptr (zG to)],by simp[hP,zG],zYw,zRT hf fro to,?_,by omega,?_,by simp[hP,zG],by simp,?_,?_⟩
   ·exact(zA9 (l:=5) (o:=0) rfl rfl 28 1).trans (zP [0,1,2,3,4,5,6] 0 (by decide) (by decide) (by simp[hP,zG]) (by simp[hP,zG]))
   ·intro i hi;simp[hP,zG]
   ·intro i hi b' M r r';simp only[jB2]at hi;have htk:(zA0 p fro to).take (i+1)=(zA0 p fro to).take i++[(zA0 p fro to)[i]]:=jA9 hi;have hne:¬((i:Int)=64):=by omega
    simp -implicitDefEqProofs [hne];exact⟨⟨by simp[maxLen]; omega,by omega⟩,Wk.here (by rw[htk,zKB]; rfl)⟩
   ·have htk:(zA0 p fro to).take (zA0 p fro to).length=zA0 p fro to:=jB0;simp -implicitDefEqProofs [htk];exact zA 1 (by simp[zDL,h1,h2])
  ·have h2':zBr p to=false:=by simpa using h2
   simp -implicitDefEqProofs [h2'];exact zA 0 (by simp[zDL,h2'])
 ·have h1':zBr p fro=false:=by simpa using h1
  simp -implicitDefEqProofs [h1'];exact zA 0 (by simp[zDL,h1'])
def zS2:K:=G [kO 2 0,kO 3 1,kMb 4 false] (Z (G [D 5 2 0,L 6 5 1,D 7 3 0,L 8 7 1,kQ 9 6 8 true] (Y 9 (G [D 10 2 0,L 11 10 1,D 12 3 0,L 13 12 1,kB 14 11 13 .lss,M 4 14] kr) ks)) (Z (G [D 15 2 1,L 16 15 1,D 17 3 1,L 18 17 1,kQ 19 16 18 true] (Y 19 (G [D 20 2 1,L 21 20 1,D 22 3 1,L 23 22 1,kB 24 21 23 .lss,M 4 24] kr) ks)) (G [D 25 2 2,L 26 25 1,D 27 3 2,L 28 27 1,kB 29 26 28 .lss,M 4 29] kr)))
theorem zYu:zQ prog Tryz.f124.ntmps (Tryz.f124.body.getD .skip)=some zS2.erase:=by kernel_rfl
@[simp] theorem qEN:zB prog 124=true:=by kernel_rfl
@[simp] theorem qI3:zB prog 33=true:=by kernel_rfl
def zS3:K:=G [kMb 4 false] (Z (G [M 6 0,kN 7 6,M 8 1,kN 9 8,kQ 10 7 9 true] (Y 10 (G [kMb 4 false] kr) ks)) (Z (G [kMi 5 0] (K.block 0 (K.loop (Z (G [M 11 5,M 12 0,kN 13 12,kB 14 11 13 .lss] (Y 14 ks (K.exit 0))) (Z (K.block 1 (Z (K.dops [(0,0,M 17 0),(1,0,M 18 5),(2,0,kX 19 17 18 3),(3,0,J 20 19 3),(4,0,M 21 1),(5,0,M 22 5),(6,0,kX 23 21 22 3),(7,0,J 24 23 3),(8,0,⟨none,.eqs (some 25) true [.i,.i,.i] (kt 20) (kt 24)⟩)]) (Y 25 (G [kMb 4 false] kr) ks))) (K.ops [M 15 5,kBi 16 15 1 .add,M 5 16])))))) (G [kMb 4 true] kr)))
theorem zYv:zQ prog Tryz.f31.ntmps (Tryz.f31.body.getD .skip)=some zS3.erase:=by kernel_rfl
@[simp] theorem qEO:zB prog 31=true:=by kernel_rfl
def zVu:K:=G [kO 3 1,kMn 4] (G [kMn 5] (G [kMb 6 false] (Z (G [kMi 7 0] (K.block 0 (K.loop (Z (G [M 8 7,M 9 0,kN 10 9,kB 11 8 10 .lss] (Y 11 ks (K.exit 0))) (Z (K.block 1 (Z (Z (K.dops [(0,0,M 14 6),(1,0,kR 15 14),(2,0,M 16 15),(3,0,T 16 true (M 17 0)),(4,0,T 16 true (M 18 7)),(5,0,T 16 true (kX 19 17 18 3)),(6,0,T 16 true (J 20 19 3)),(7,0,T 16 true (J 21 3 3)),(8,0,T 16 true (kC 22 124 [(kt 20),(kt 21)])),(9,0,T 16 true (kR 23 22)),(10,0,kPf 24 16 23)]) (Y 24 (G [M 25 5,J 26 3 3,kd 27 31 3 1 [ki,ki,ki] [(0,3,(kt 26))],kP 28 31 3 24 25 27,M 5 28] (K.ops [kMb 6 true])) ks)) (Z (K.dops [(0,0,M 29 0),(1,0,M 30 7),(2,0,kX 31 29 30 3),(3,0,J 32 31 3),(4,0,J 33 3 3),(5,0,⟨none,.eqs (some 34) true [.i,.i,.i] (kt 32) (kt 33)⟩)]) (Y 34 (K.ops [M 35 5,M 36 0,M 37 7,kX 38 36 37 3,J 39 38 3,kd 40 31 3 1 [ki,ki,ki] [(0,3,(kt 39))],kP 41 31 3 24 35 40,M 5 41]) ks)))) (K.ops [M 12 7,kBi 13 12 1 .add,M 7 13])))))) (Z (G [M 42 6,kR 43 42] (Y 43 (K.ops [M 44 5,J 45 3 3,kd 46 31 3 1 [ki,ki,ki] [(0,3,(kt 45))],kP 47 31 3 24 44 46,M 5 47]) ks)) (G [M 48 5,M 4 48] kr)))))
theorem qCp:zQ prog Tryz.f82.ntmps (Tryz.f82.body.getD .skip)=some zVu.erase:=by kernel_rfl
@[simp] theorem qI4:zB prog 82=true:=by kernel_rfl
theorem zU6 (x y:Id):Ret prog 124 [.agg (zG x),.agg (zG y)] [] (bl (zA8 x y)) []:=by
 refine zH Tryz.func124 rfl zYu (rs:=[.slot 4]) (by kernel_rfl) ?_;unfold zS2;by_cases h1:x.a=y.a
 ·by_cases h2:x.b=y.b
  ·simp -implicitDefEqProofs [zG,h1,h2];exact zA 0 (by simp[zA8,h1,h2])
  ·simp -implicitDefEqProofs [zG,h1,h2];exact zA 0 (by simp[zA8,h1,h2])
 ·simp -implicitDefEqProofs [zG,h1];exact zA 0 (by simp[zA8,h1])
theorem zUR (a b:List Id):Ret prog 31 [.sl a.length (zS a),.sl b.length (zS b)] [] (bl (decide (a=b))) []:=by
 refine zH Tryz.func31 rfl zYv (rs:=[.slot 4]) (by kernel_rfl) ?_;unfold zS3;by_cases hab:a.length=b.length
 ·have hab':(a.length:Int)=b.length:=by omega
  simp -implicitDefEqProofs [hab];intro hlb;refine jR (S:=Nat) (fun i=>[(0,.sl a.length (zS a)),(1,.sl b.length (zS b)),(5,int i)]) (fun s=>[]) (fun i=>i≤a.length∧a.take i=b.take i) (fun i=>a.length-i) 0 (by simp)
   (zP [] 0 (by simp) (by simp) (by simp) (by simp[hab])) ?_
  rintro i ⟨hi,hn⟩;by_cases h:i<a.length
  ·have hb:i<b.length:=by omega
   simp -implicitDefEqProofs [h,hb,yZ h,yZ hb];intro hl;refine qZ (fun h'=>?_) (fun h'=>?_)<;>simp at h'<;>simp -implicitDefEqProofs
   ·have hx:a[i]≠b[i]:=fun e=>by rw[e]at h'; simp at h'
    have hne:a≠b:=fun e=>hx (by subst e; rfl)
    exact zA 0 (by simp[hne])
   ·have hx:a[i]=b[i]:=h';refine zO (i+1) ⟨h,?_⟩ (by omega) (zP [] 0 (by simp) (by simp) (by simp) (by simp[qC h hl]));rw[jA9 h,jA9 hb,hn,hx]
  ·have:i=a.length:=by omega
   subst this;simp -implicitDefEqProofs;have:a=b:=by rw[jB0,hab,jB0]at hn; exact hn
   exact fun _=>zA 0 (by simp[this])
 ·have hne:a≠b:=fun e=>hab (by rw[e])
  have hab':¬(a.length:Int)=b.length:=by omega
  simp -implicitDefEqProofs [hab'];exact fun _ _=>zA 0 (by simp[hne])
def zCw (x:Id)(s:List Id×Bool)(y:Id):List Id×Bool:=((s.1++(if s.2=false∧zA8 y x=false then [x] else []))++(if y=x then [] else [y]),s.2||!zA8 y x)
def zPJ (x:Id)(s:List Id×Bool):List Id:=if s.2 then s.1 else s.1++[x]
theorem zPK (x:Id):∀(l:List Id) (s:List Id×Bool),(l.foldl (zCw x) s).1.length≤s.1.length+2*l.length
 | [],s=>by simp
 | y::l,s=>by
  have:=zPK x l (zCw x s y);have h2:(zCw x s y).1.length≤s.1.length+2:=by unfold zCw;simp only[jA7];split<;>split<;>simp
  simp only[jBe,jAl];omega
theorem zJc (x:Id):∀(l:List Id) (o:List Id),x∉l→l.foldl (zCw x) (o,true)=(o++l,true)
 | [],o,_=>by simp
 | y::l,o,h=>by
  have hy:y≠x:=fun e=>h (by simp[e])
  have:=zJc x l (o++[y]) (fun e=>h (by simp[e]));simp only[jBe,zCw,Bool.true_eq_false,false_and,if_false,if_neg hy,jBw,Bool.true_or,this,jB3,jCv]
theorem zSY (x:Id):∀(l:List Id) (o:List Id),SS l→zPJ x (l.foldl (zCw x) (o,false))=o++zDj l x
 | [],o,_=>by simp[zPJ,zDj]
 | y::l,o,h=>by
  obtain⟨h1,h2⟩:=jBq.1 h;by_cases hl:zA8 y x=true
  ·have hy:y≠x:=fun e=>by subst e; simp[zA8]at hl
   have:=zSY x l (o++[y]) h2;simp only[jBe,zCw,hl,Bool.not_true,Bool.or_false,if_neg hy,zDj,if_true];simp only[Bool.true_eq_false,and_false,if_false,jBw];rw[this]; simp
  ·have hl':zA8 y x=false:=by simpa using hl
   have hn:x∉l:=fun hx=>by have:=h1 x hx;rw[hl']at this; cases this
   simp only[jBe,zCw,hl',Bool.not_false,Bool.or_true,and_self,if_true,zDj,jAi,if_false];by_cases hy:y=x
   ·subst hy;rw[zJc _ _ _ hn];simp[zPJ]
   ·rw[if_neg hy,if_neg hy,zJc _ _ _ hn];simp[zPJ]
theorem zWS (l:List Id)(x:Id)(hl6:l.length≤1000):Ret prog 82 [.sl l.length (zS l),.agg (zG x)] [] (.sl (zPJ x (l.foldl (zCw x) ([],false))).length (zS (zPJ x (l.foldl (zCw x) ([],false))))) []:=by
 refine zH Tryz.func82 rfl qCp (rs:=[.slot 4]) (by kernel_rfl) ?_;unfold zVu;simp -implicitDefEqProofs [zG];refine jR (S:=Nat) (fun i=>[(0,.sl l.length (zS l)),(3,.ptr 0 0),(5,.row 1 ((l.take i).foldl (zCw x) ([],false)).1.length),(6,bl ((l.take i).foldl (zCw x) ([],false)).2),(7,int i)]) (fun i=>[.box (zG x),.row false 31 3 ((l.take i).foldl (zCw x) ([],false)).1.length (zS ((l.take i).foldl (zCw x) ([],false)).1)]) (fun i=>i≤l.length) (fun i=>l.length-i) 0 (by simp)
  ((zAG (t:=5) (by simp) 31 3).trans (zP [0,1] 0 (by simp) (by simp) (by simp[zG]) (by simp))) ?_
 intro i hi;have hmx:l.length≤maxLen:=by simp[maxLen]; omega
 have hsl:=zPK x (l.take i) ([],false);rw[jAp]at hsl;by_cases h:i<l.length
 ·have hst:(l.take (i+1)).foldl (zCw x) ([],false)=zCw x ((l.take i).foldl (zCw x) ([],false)) l[i]:=by rw[jA9 h,jC9]; rfl
  generalize (l.take i).foldl (zCw x) ([],false)=s at *
  obtain⟨o,d⟩:=s;simp only[jBu]at hsl;have hne:l≠[]:=fun e=>by rw[e]at h; simp at h
  have less:=zU6 l[i] x;cases d
  ·cases hls:zA8 l[i] x
   ·simp -implicitDefEqProofs [h,yZ h,zG,hne];intro _;refine qU less (by simp[zG]) (by simp) ?_;by_cases hx:l[i]=x
    ·simp -implicitDefEqProofs [h,yZ h,zG,hne,hx,zB9];refine⟨⟨by simp[maxLen]; omega,by omega⟩,?_⟩;exact zO (i+1) h (by omega) (zP [0,1] 0 (by simp) (by simp) (by simp[zG,hst,zCw,hx,zB9,yT,zS]) (by simp[hst,zCw,hx,zB9,qC h hmx]))
    ·simp -implicitDefEqProofs [hls,h,yZ h,zG,hne,hx];refine⟨⟨by simp[maxLen]; omega,by omega⟩,?_⟩;refine⟨⟨by simp[maxLen]; omega,by omega⟩,?_⟩;exact zO (i+1) h (by omega) (zP [0,1] 0 (by simp) (by simp) (by simp[zG,hst,zCw,hx,hls,yT,zS]) (by simp[hst,zCw,hx,hls,qC h hmx]))
   ·have hx:¬l[i]=x:=fun e=>by rw[e,zB9]at hls; cases hls
    simp -implicitDefEqProofs [h,yZ h,zG,hne];intro _;refine qU less (by simp[zG]) (by simp) ?_;simp -implicitDefEqProofs [hls,h,yZ h,zG,hne,hx];refine⟨⟨by simp[maxLen]; omega,by omega⟩,?_⟩;exact zO (i+1) h (by omega) (zP [0,1] 0 (by simp) (by simp) (by simp[zG,hst,zCw,hx,hls,yT,zS]) (by simp[hst,zCw,hx,hls,qC h hmx]))
  ·by_cases hx:l[i]=x
   ·simp -implicitDefEqProofs [h,yZ h,zG,hne,hx];intro _;exact zO (i+1) h (by omega) (zP [0,1] 0 (by simp) (by simp) (by simp[zG,hst,zCw,hx,yT,zS]) (by simp[hst,zCw,hx,qC h hmx]))
   ·simp -implicitDefEqProofs [h,yZ h,zG,hne,hx];intro _;refine⟨⟨by simp[maxLen]; omega,by omega⟩,?_⟩;exact zO (i+1) h (by omega) (zP [0,1] 0 (by simp) (by simp) (by simp[zG,hst,zCw,hx,yT,zS]) (by simp[hst,zCw,hx,qC h hmx]))
 ·have hie:i=l.length:=by omega
  subst hie;rw[jB0]at *
  generalize l.foldl (zCw x) ([],false)=s at *
  obtain⟨o,d⟩:=s;cases d
  ·simp -implicitDefEqProofs [zG];intro _;have hsl2:o.length≤2*l.length:=by simpa using hsl
   refine⟨⟨by simp[maxLen]; omega,by omega⟩,?_⟩;exact zA 1 (by simp[zPJ,yT,zS])
  ·simp -implicitDefEqProofs [zG];exact fun _=>zA 1 (by simp[zPJ])
theorem zWT {l:List Id}(h:SS l)(x:Id)(hl:l.length≤1000):Ret prog 82 [.sl l.length (zS l),.agg (zG x)] [] (.sl (zDj l x).length (zS (zDj l x))) []:=by have:=zWS l x hl;rw[zSY x l [] h]at this;exact this
def zVl:K:=G [kO 1 0,kMn 2] (G [kMn 3] (Z (G [kMi 4 0] (K.block 0 (K.loop (Z (G [M 8 4,D 9 1 1,L 10 9 1,kN 11 10,kB 12 8 11 .lss] (Y 12 ks (K.exit 0))) (Z (K.block 1 (Z (K.wk (K.dops [(0,1,J 16 1 2),(1,1,D 17 1 1),(2,1,L 18 17 1),(3,0,M 19 4),(4,1,kX 20 18 19 31),(5,1,D 21 20 0),(6,1,J 22 21 3),(7,1,kC 23 13 [(kt 16),(kt 22)]),(8,0,M 15 23),(9,0,kE 24 15 0),(10,0,kE 25 15 1),(11,0,kE 26 15 2),(12,302,⟨none,.alr (some 5) 2 kz2⟩),(13,303,⟨none,.alr (some 6) 3 kz2⟩),(14,0,S 5 24 5),(15,0,S 6 25 5),(16,0,M 7 26)])) (G [M 27 7] (Y 27 (K.ops [M 28 3,D 29 1 1,L 30 29 1,M 31 4,kX 32 30 31 31,D 33 32 0,J 34 33 3,kC 35 82 [(kt 28),(kt 34)],M 3 35]) ks)))) (K.ops [M 13 4,kBi 14 13 1 .add,M 4 14])))))) (G [M 36 3,M 2 36] kr)))
def qDj:Nat→Option (List (Nat×Nat)):=fun r=>match r with | 5=>some [(0,1),(1,1),(2,1),(3,0),(4,1),(5,1),(6,1),(7,1),(8,0),(9,0),(10,0),(11,0),(12,302),(13,303),(14,0),(15,0),(16,0)] | _=>none
theorem qCl:qD prog Tryz.f35.ntmps qDj (Tryz.f35.body.getD .skip)=some zVl.erase:=by kernel_rfl
@[simp] theorem qIz:zB prog 35=true:=by kernel_rfl
def cvI (p:Prg)(i:Nat):List Id:=(((p.defs.take i).filter fun d=>(yE p d.id).isSome).map (·.id)).foldl zDj []
theorem zVZ (p:Prg)(i:Nat):SS (cvI p i):=zLb List.Pairwise.nil
theorem zSE (p:Prg)(i:Nat):(cvI p i).length≤i:=by have h1:=zS6 (((p.defs.take i).filter fun d=>(yE p d.id).isSome).map (·.id)) [];have h2:=jD7 (fun d=>(yE p d.id).isSome) (p.defs.take i);simp only[jB2,jAp,jBu]at h1 h2;unfold cvI;omega
theorem zSD (p:Prg):cvI p p.defs.length=zBC p:=by
 refine(zVZ p _).unique (zO0 _) fun x=>?_
 unfold cvI zBC;rw[zIW,zI2,jB0];simp
theorem zWa (p:Prg){i:Nat}(h:i<p.defs.length):cvI p (i+1)=if (yE p p.defs[i].id).isSome then zDj (cvI p i) p.defs[i].id else cvI p i:=by
 unfold cvI;rw[jA9 h,List.filter_append,jCk,jC9];by_cases hs:(yE p p.defs[i].id).isSome=true
 ·simp[List.filter,hs]
 ·simp[List.filter,hs]
theorem zVY (p:Prg)(hp:p.defs.length≤100):Ret prog 35 [.agg (zK p)] [] (.sl (zBC p).length (zS (zBC p))) []:=by
 have hP:=eP p;refine qP Tryz.func35 rfl qCl (rs:=[.slot 2]) (by kernel_rfl) ?_;unfold zVl;simp -implicitDefEqProofs [hP];refine jR (S:=Nat) (fun i=>[(1,.ptr 0 0),(3,.sl (cvI p i).length (zS (cvI p i))),(4,int i)]) (fun i=>[.box (zK p)]) (fun i=>i≤p.defs.length) (fun i=>p.defs.length-i) 0 (by simp)
  (zP [0] 0 (by simp) (by simp) (by simp[hP]) (by simp[cvI,zS])) ?_
 intro i hi;by_cases h:i<p.defs.length
 ·have hl:=zSE p i;have hs:=zWa p h;have hd:=zAH h;have hne:p.defs≠[]:=fun e=>by rw[e]at h; simp at h
  have hw:=qC h (show p.defs.length≤maxLen by simp[maxLen]; omega);have hle:=zPO p (by omega) p.defs[i].id;have hins:=zWT (zVZ p i) p.defs[i].id (by omega);simp -implicitDefEqProofs [hP,h];intro _;refine⟨_,_,yW 3,?_⟩;simp -implicitDefEqProofs [List.replicate,h,hd,hne,zF];refine zAn hle (by simp[hP,zG]) (by simp[zCr,zM]) ?_;cases hv:yE p p.defs[i].id with
  | none =>
   rw[hv]at hs;simp -implicitDefEqProofs [zCr,zM];exact zO (i+1) h (by omega) (zP [0] 0 (by simp) (by simp) (by simp[hP]) (by simp[hs,hw]))
  | some ab =>
   rw[hv]at hs;simp -implicitDefEqProofs [zCr,zM,h,hd,hne,zF];refine qE hins (by simp[zG]) (by simp) ?_;simp -implicitDefEqProofs;exact zO (i+1) h (by omega) (zP [0] 0 (by simp) (by simp) (by simp[hP]) (by simp[hs,hw]))
 ·have hie:i=p.defs.length:=by omega
  subst hie;simp -implicitDefEqProofs [hP];rw[zSD]
  first | exact fun _=>zA 0 (by simp) | exact zA 0 (by simp)
def zQN:K:=(G [D 29 6 13,L 30 29 1,kN 31 30,kMi 32 0] (K.block 0 (K.loop (G [kB 33 32 31 .lss] (Z (Y 33 ks (K.exit 0)) (Z (K.block 1 (G [kX 34 30 32 15,J 35 34 15,kZ 9 kz1,S 9 35 15] (Z (K.dops [(0,0,D 36 6 3),(1,0,L 37 36 1),(2,0,kQi 38 37 8 false),(3,0,M 39 38),(4,0,T 39 true (D 40 9 3)),(5,0,T 39 true (L 41 40 1)),(6,0,T 39 true (kQi 42 41 2 false)),(7,0,kPf 43 39 42),(8,0,M 44 43),(9,0,T 44 true (D 45 9 5)),(10,0,T 44 true (J 46 45 3)),(11,0,T 44 true (D 47 2 8)),(12,0,T 44 true (L 48 47 1)),(13,0,T 44 true (kXi 49 48 11 0)),(14,0,T 44 true (D 50 49 0)),(15,0,T 44 true (J 51 50 3)),(16,0,⟨some (44,true),.eqs (some 52) false [.i,.i,.i] (kt 46) (kt 51)⟩),(17,0,kPf 53 44 52),(18,0,M 10 53)]) (Z (G [M 54 10] (Y 54 (K.ops [L 55 4 1,D 56 6 4,L 57 56 1,⟨none,.mop none (.set 1) [(kt 55),(kt 57),(.const (.bool true))]⟩]) ks)) (K.ops [L 58 5 1,J 59 9 15,M 60 10,⟨none,.call (some 61) (kt 58) [(kt 59),(kt 60)]⟩]))))) (K.ops [kBi 62 32 1 .add,M 32 62])))))))
def qAt:K:=G [kO 6 0] (Z (Z (K.dops [(0,0,D 11 6 3),(1,0,L 12 11 1),(2,0,kQi 13 12 2 false),(3,0,M 14 13),(4,0,T 14 true (D 15 6 5)),(5,0,T 14 true (J 16 15 3)),(6,0,T 14 true (D 17 2 8)),(7,0,T 14 true (L 18 17 1)),(8,0,T 14 true (kXi 19 18 11 0)),(9,0,T 14 true (D 20 19 0)),(10,0,T 14 true (J 21 20 3)),(11,0,⟨some (14,true),.eqs (some 22) false [.i,.i,.i] (kt 16) (kt 21)⟩),(12,0,kPf 23 14 22)]) (Y 23 (K.ops [L 24 3 1,M 25 24,T 25 false (M 26 1),T 25 false (kR 27 26),kPt 28 25 27,S 3 28 1]) ks)) (K.wk zQN))
theorem qIe:zQ prog Tryz.f58.ntmps (Tryz.f58.body.getD .skip)=some qAt.erase:=by kernel_rfl
@[simp] theorem qLG:zB prog 58=true:=by kernel_rfl
def mki (l:List Int):List (List Int×A):=l.map fun x=>([x],.lit (.bool true))
def adI (l:List Int)(x:Int):List Int:=if x∈l then l else l++[x]
theorem zYk {l:List Int}{x y:Int}:y∈adI l x↔y∈l∨y=x:=by
 unfold adI;split
 ·rename_i h;exact⟨.inl,fun hh=>hh.elim id fun e=>e▸h⟩
 ·simp
theorem zOH {y:Int}:∀(m l:List Int),y∈m.foldl adI l↔y∈l∨y∈m
 | [],l=>by simp
 | x::m,l=>by rw[jBe,zOH m,zYk,jA5]; exact or_assoc
theorem zTi (x:Int):∀l:List Int,Go.Abs.putI [x] (.lit (.bool true)) (mki l)=mki (adI l x)
 | []=>rfl
 | y::l=>by
  have ih:=zTi x l;simp only[mki,jAc,Go.Abs.putI]at ih ⊢;by_cases h:y=x
  ·subst h;simp[adI]
  ·have h':¬[y]=[x]:=fun e=>h (by simpa using e)
   have h2:¬x=y:=fun e=>h e.symm
   rw[if_neg h',ih];unfold adI;by_cases hx:x∈l
   ·simp[hx]
   ·simp[hx,h2]
theorem zQb (x:Int):∀l:List Int,zBO [x] (mki l)=if x∈l then some (.lit (.bool true)) else none
 | []=>rfl
 | y::l=>by
  have ih:=zQb x l;simp only[mki,jAc,zBO]at ih ⊢;by_cases h:y=x
  ·subst h;simp
  ·have h':¬[y]=[x]:=fun e=>h (by simpa using e)
   have h2:¬x=y:=fun e=>h e.symm
   rw[if_neg h',ih];simp[h2]
theorem zZm (x:Int)(l:List Int):zFn (Value.bool false) false (zBO [x] (mki l))=.lit (.bool (decide (x∈l))):=by rw[zQb];split<;>rename_i h<;>simp[zFn,h,qR,zFx]
@[simp] theorem qQe {rf g}(l:List Int):(mki l).map (fun p=>(p.1,vw rf g p.2))=mki l:=by unfold mki;rw[jCc]; rfl
def fvS (D:List A)(w:Bool)(l:List Int):St:=[.box [bl w],.box [.map 2],.mp false 1 (mki l),.box [.clo 58 [] [.rptr D,.ptr 0 0,.ptr 1 0,.ptr 3 0]]]
def fvA (D:List A)(e:Exp)(f:Bool):List A:=[.agg (zU e),bl f,.rptr D,.ptr 0 0,.ptr 1 0,.ptr 3 0]
def zVk (D:List A)(s:Id)(e:Exp):Prop:=∀(f w:Bool) (l:List Int),Ret prog 58 (fvA D e f) (fvS D w l) (.tup []) (fvS D (w||zCt s e f) ((zDc s e).foldl adI l))
theorem zSw (s:Id)(e:Exp)(f:Bool):zCt s e f=((decide (e.k=2)&&decide (e.ref=s)&&!f)||zCc s (decide (e.k=8)) e.kids):=by cases e; rfl
theorem zXi (s:Id)(e:Exp):zDc s e=zDv s (decide (e.k=8)) e.n e.kids:=by cases e; rfl
theorem zKd (s:Id)(f:Bool):∀(l:List Exp) {i:Nat} (h:i<l.length),zCc s f (l.take (i+1))=(zCc s f (l.take i)||zCt s l[i] (f&&isS s l[i]))
 | [],i,h=>by simp at h
 | e::l,0,_=>by simp[zCc]
 | e::l,i+1,h=>by simp only[jC6,zCc,jDc];rw[zKd s f l (by simpa using h),Bool.or_assoc]
theorem zNg (s:Id)(f:Bool)(n:Int):∀(l:List Exp) {i:Nat} (h:i<l.length),zDv s f n (l.take (i+1))=zDv s f n (l.take i)++((if (f&&isS s l[i])=true then [n] else [])++zDc s l[i])
 | [],i,h=>by simp at h
 | e::l,0,_=>by simp[zDv]
 | e::l,i+1,h=>by simp only[jC6,zDv,jDc];rw[zNg s f n l (by simpa using h)];simp
theorem zOe (s:Id)(k:Exp):isS s k=(decide (k.k=2)&&decide (k.ref=s)):=rfl
theorem qDf (D D':List A)(u:Slt)(hD:D.drop 8=.sl 1 (yK u)::D')(hv:∀rf g,vwL rf g D=D)(hn:jF D=D)(e:Exp)(ih:∀k∈e.kids,zVk D u.id k)(f w:Bool)(l:List Int) :
 wpK prog 4 zQN (fin [] (zHe 4 (.tup []) (fvS D (w||zCc u.id (decide (e.k=8)) e.kids) ((zDv u.id (decide (e.k=8)) e.n e.kids).foldl adI l)))) (qG [(2,.rptr D),(3,.ptr 0 0),(4,.ptr 1 0),(5,.ptr 3 0),(6,.ptr 4 0)]) (fvS D w l++[.box (zU e)]):=by
 obtain⟨b8,hb8⟩:∃b,b=decide (e.k=8):=⟨_,rfl⟩;rw[←hb8];unfold zQN;simp -implicitDefEqProofs [fvS,zU];intro hmx;refine jR (S:=Nat) (fun i=>[(2,.rptr D),(3,.ptr 0 0),(4,.ptr 1 0),(5,.ptr 3 0),(6,.ptr 4 0),(30,.sl e.kids.length (jS e.kids)),(31,int e.kids.length),(32,int i)])
  (fun i=>fvS D (w||zCc u.id b8 (e.kids.take i)) ((zDv u.id b8 e.n (e.kids.take i)).foldl adI l)++[.box (zU e)]) (fun i=>i≤e.kids.length) (fun i=>e.kids.length-i) 0 (by simp)
  (zP [0,1,2,3,4] 0 (by decide) (by decide) (by simp[fvS,hv,zU,zCc,zDv]) (by simp[hv])) ?_
 intro i hi;by_cases h:i<e.kids.length
 ·have hw:=qC h hmx;have hwt:=zKd u.id b8 e.kids h;have hmt:=zNg u.id b8 e.n e.kids h;have hne:¬e.kids=[]:=fun e'=>by rw[e']at h; simp at h
  have hk:=ih e.kids[i] (jA3 h);generalize hww:(w||zCc u.id b8 (e.kids.take i))=wi at *
  generalize hll:(zDv u.id b8 e.n (e.kids.take i)).foldl adI l=li at *
  have fold1:∀own:Bool,(b8&&isS u.id e.kids[i])=own→(zDv u.id b8 e.n (e.kids.take (i+1))).foldl adI l=(zDc u.id e.kids[i]).foldl adI (if own then adI li e.n else li):=fun own ho=>by rw[hmt,jC9,jC9,hll,ho];cases own<;>rfl
  have whole1:∀own:Bool,(b8&&isS u.id e.kids[i])=own→(w||zCc u.id b8 (e.kids.take (i+1)))=(wi||zCt u.id e.kids[i] own):=fun own ho=>by rw[hwt,ho,←Bool.or_assoc,hww]
  have hput:=zTi e.n li;by_cases c8:e.k=8
  ·by_cases ck:e.kids[i].k=2
   ·by_cases cr:e.kids[i].ref=u.id
    ·have ho:(b8&&isS u.id e.kids[i])=true:=by simp[hb8,zOe,c8,ck,cr]
     have e1:=fold1 _ ho;have e2:=whole1 _ ho;have hc:=hk true wi (adI li e.n);simp -implicitDefEqProofs [fvS,zU,h,hne,zBw h,c8,ck,cr,hD,yK,zCa,hput];refine jO hc [0,1,2,3] (by decide) (by simp[fvS,hv]) (by simp[fvA,hv,zU,ck,cr]) ?_;simp -implicitDefEqProofs [fvS];exact zO (i+1) h (by omega) (zP [0,1,2,3,4] 0 (by decide) (by decide) (by simp[fvS,hv,zU,e1,e2,c8]) (by simp[hv,hw]))
    ·have ho:(b8&&isS u.id e.kids[i])=false:=by simp[zOe,cr]
     have e1:=fold1 _ ho;have e2:=whole1 _ ho;have hc:=hk false wi li;simp -implicitDefEqProofs [fvS,zU,h,hne,zBw h,c8,ck,cr,hD,yK,zCa];refine jO hc [0,1,2,3] (by decide) (by simp[fvS,hv]) (by simp[fvA,hv,zU,ck]) ?_;simp -implicitDefEqProofs [fvS];exact zO (i+1) h (by omega) (zP [0,1,2,3,4] 0 (by decide) (by decide) (by simp[fvS,hv,zU,e1,e2,c8]) (by simp[hv,hw]))
   ·have ho:(b8&&isS u.id e.kids[i])=false:=by simp[zOe,ck]
    have e1:=fold1 _ ho;have e2:=whole1 _ ho;have hc:=hk false wi li;simp -implicitDefEqProofs [fvS,zU,h,hne,zBw h,c8,ck];refine jO hc [0,1,2,3] (by decide) (by simp[fvS,hv]) (by simp[fvA,hv,zU,c8]) ?_;simp -implicitDefEqProofs [fvS];exact zO (i+1) h (by omega) (zP [0,1,2,3,4] 0 (by decide) (by decide) (by simp[fvS,hv,zU,e1,e2,c8]) (by simp[hv,hw]))
  ·have ho:(b8&&isS u.id e.kids[i])=false:=by simp[hb8,c8]
   have e1:=fold1 _ ho;have e2:=whole1 _ ho;have hc:=hk false wi li;simp -implicitDefEqProofs [fvS,zU,h,hne,zBw h,c8];refine jO hc [0,1,2,3] (by decide) (by simp[fvS,hv]) (by simp[fvA,hv,zU,c8]) ?_;simp -implicitDefEqProofs [fvS];exact zO (i+1) h (by omega) (zP [0,1,2,3,4] 0 (by decide) (by decide) (by simp[fvS,hv,zU,e1,e2,c8]) (by simp[hv,hw]))
 ·have hie:i=e.kids.length:=by omega
  subst hie;rw[jB0];simp -implicitDefEqProofs [fvS,zU];exact zL [0,1,2,3] 0 (by decide) (by decide) (by simp[hv]) (by simp)
theorem zUc (D D':List A)(u:Slt)(hD:D.drop 8=.sl 1 (yK u)::D')(hv:∀rf g,vwL rf g D=D)(hn:jF D=D)(e:Exp)(ih:∀k∈e.kids,zVk D u.id k):zVk D u.id e:=by
 intro f w l;rw[zSw,zXi];refine zH Tryz.func58 rfl qIe (rs:=[]) (by kernel_rfl) ?_;unfold qAt;rw[←Bool.or_assoc,show (fvS D w l).length=4 from rfl];have hL:=qDf D D' u hD hv hn e ih f;have hl8:1≤D.length-8:=by rw[←jC,hD]; simp
 by_cases c1:e.k=2
 ·by_cases c2:e.ref=u.id
  ·have key:(decide (e.k=2)&&decide (e.ref=u.id)&&!f) = !f:=by simp[c1,c2]
   rw[key];have hL':=hL (w||!f) l;generalize zHe 4 (.tup []) (fvS D (w||!f||zCc u.id (decide (e.k=8)) e.kids) ((zDv u.id (decide (e.k=8)) e.n e.kids).foldl adI l))=Q at hL' ⊢;cases w
   ·cases f
    ·simp -implicitDefEqProofs [fvA,fvS,zU,c1,c2,hD,yK,zCa];refine⟨_,_,zP [0,1,2,3,4] 0 (by decide) (by decide) ?_ ?_,hL'⟩
     ·simp[fvS,hv,zU,c1,c2]
     ·simp[hv]
    ·simp -implicitDefEqProofs [fvA,fvS,zU,c1,c2,hD,yK,zCa];refine⟨_,_,zP [0,1,2,3,4] 0 (by decide) (by decide) ?_ ?_,hL'⟩
     ·simp[fvS,hv,zU,c1,c2]
     ·simp[hv]
   ·simp -implicitDefEqProofs [fvA,fvS,zU,c1,c2,hD,yK,zCa];refine⟨_,_,zP [0,1,2,3,4] 0 (by decide) (by decide) ?_ ?_,hL'⟩
    ·simp[fvS,hv,zU,c1,c2]
    ·simp[hv]
  ·have key:(decide (e.k=2)&&decide (e.ref=u.id)&&!f)=false:=by simp[c2]
   rw[key,Bool.or_false];have hL':=hL w l;generalize zHe 4 (.tup []) (fvS D (w||zCc u.id (decide (e.k=8)) e.kids) ((zDv u.id (decide (e.k=8)) e.n e.kids).foldl adI l))=Q at hL' ⊢;simp -implicitDefEqProofs [fvA,fvS,zU,c1,c2,hD,yK,zCa];refine⟨_,_,zP [0,1,2,3,4] 0 (by decide) (by decide) ?_ ?_,hL'⟩
   ·simp[fvS,hv,zU,c1]
   ·simp[hv]
 ·have key:(decide (e.k=2)&&decide (e.ref=u.id)&&!f)=false:=by simp[c1]
  rw[key,Bool.or_false];have hL':=hL w l;generalize zHe 4 (.tup []) (fvS D (w||zCc u.id (decide (e.k=8)) e.kids) ((zDv u.id (decide (e.k=8)) e.n e.kids).foldl adI l))=Q at hL' ⊢;simp -implicitDefEqProofs [fvA,fvS,zU,c1,hD];refine⟨_,_,zP [0,1,2,3,4] 0 (by decide) (by decide) ?_ ?_,hL'⟩
  ·simp[fvS,hv,zU]
  ·simp[hv]
end Go.Proofs.YtdnelmeboihpkaaGreatDoor
