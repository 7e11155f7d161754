/-
  convert.order and edges.
  convert.reaches: a search that goes breadth first.
  convert.paths: the recursive closure that visits.
  convert.paths and Paths.
  spliceryref17's lists of IDs; the reference's Converters.
  convert.Field: what an expression reads of a slot.
-/
import Derived.Test.YtdnelmeboihpkaaGreatDoorX17
import Derived.Test.YtdnelmeboihpkaaGreatDoorX11
import Derived.Test.YtdnelmeboihpkaaGreatDoorX15
set_option linter.unusedVariables false
set_option maxHeartbeats 8000000
set_option maxRecDepth 100000
set_option linter.unusedSimpArgs false
open Go.Proofs.Tryz (prog)
namespace Go.Proofs.YtdnelmeboihpkaaGreatDoor
open Go.Abs
def qA4:K:=G [kO 2 0,kO 3 1,kMi 4 0] (Z (K.dops [(0,0,D 5 2 0),(1,0,L 6 5 1),(2,0,D 7 3 0),(3,0,L 8 7 1),(4,0,kC 9 80 [(kt 6),(kt 8)]),(5,0,D 10 2 1),(6,0,L 11 10 1),(7,0,D 12 3 1),(8,0,L 13 12 1),(9,0,kC 14 80 [(kt 11),(kt 13)]),(10,0,D 15 2 2),(11,0,L 16 15 1),(12,0,D 17 3 2),(13,0,L 18 17 1),(14,0,kC 19 80 [(kt 16),(kt 18)]),(15,0,kd 20 3 1 3 [ki,ki,ki] [(0,1,(kt 9)),(1,1,(kt 14)),(2,1,(kt 19))]),(16,0,kC 21 79 [(kt 20)]),(17,0,M 4 21)]) kr)
theorem qIl:zQ prog Tryz.f147.ntmps (Tryz.f147.body.getD .skip)=some qA4.erase:=by kernel_rfl
@[simp] theorem qLU:zB prog 147=true:=by kernel_rfl
theorem zUn (x y:Id):Ret prog 147 [.agg (zF x),.agg (zF y)] [] (int (zIW x y)) []:=by refine zI Tryz.func147 rfl qIl (rs:=[.slot 4]) (by kernel_rfl) ?_;unfold qA4;simp -implicitDefEqProofs [zF];refine qU (zCr x.a y.a) (by simp) (by simp) ?_;simp -implicitDefEqProofs;refine qU (zCr x.b y.b) (by simp) (by simp) ?_;simp -implicitDefEqProofs;refine qU (zCr x.c y.c) (by simp) (by simp) ?_;simp -implicitDefEqProofs;refine qU (zXE [zA5 x.a y.a,zA5 x.b y.b,zA5 x.c y.c]) (by simp) (by simp) ?_;simp -implicitDefEqProofs;exact zA 0 (by simp[zIW])
def zBk (e:Edg):List A:=[.lit (.int .i64 e.id.a),.lit (.int .i64 e.id.b),.lit (.int .i64 e.id.c),.lit (.int .i64 e.fro.a),.lit (.int .i64 e.fro.b),.lit (.int .i64 e.fro.c),.lit (.int .i64 e.to.a),.lit (.int .i64 e.to.b),.lit (.int .i64 e.to.c)]
def yN (l:List Edg):List A:=l.flatMap zBk
theorem zFZ (d:Edg):qJ (zBk d):=qJ.lit (qJ.lit (qJ.lit (qJ.lit (qJ.lit (qJ.lit (qJ.lit (qJ.lit (qJ.lit qJ.nil))))))))
theorem zHb (l:List Edg):qJ (yN l):=zBi zFZ l
@[simp] theorem zZC (l:List Edg):jF (yN l)=yN l:=(zHb l).1
@[simp] theorem qED {rf g}(l:List Edg):vwL rf g (yN l)=yN l:=(zHb l).2 _ _
@[simp] theorem qBb:yN []=[]:=rfl
theorem zEX (x:Edg)(l:List Edg):yN (x::l)=zBk x++yN l:=rfl
theorem zKP (l l':List Edg):yN (l++l')=yN l++yN l':=by simp only[yN,jCf]
@[simp] theorem qBa (l:List Edg):(yN l).length=l.length*9:=by rw[yN,zBR (k:=9) (fun _=>rfl)]
theorem zBv {l:List Edg}{i:Nat}(h:i<l.length):(yN l).drop (i*9)=zBk l[i]++yN (l.drop (i+1)):=by rw[yN,yN,zDB (k:=9) (fun _=>rfl) h]
@[simp] theorem qFs (d:Edg):(zBk d).length=9:=rfl
@[simp] theorem qFr (d:Edg):(zBk d).take 9=zBk d:=jAj (jA _)
@[simp] theorem qDj (d:Edg)(l:List A):(zBk d++l).take 9=zBk d:=by rw[jC (by simp)]; exact jAj (by simp)
@[simp] theorem qDS (d:Edg):jF (zBk d)=zBk d:=(zFZ d).1
@[simp] theorem qL0 (d:Edg) {rf g}:vwL rf g (zBk d)=zBk d:=(zFZ d).2 _ _
@[simp] theorem zMG (e:Edg)(k:Nat):zBm k (zBk e)=true:=by simp[zBk]
@[simp] theorem qAV (l:List Edg)(k:Nat):zBm k (yN l)=true:=by
 induction l with
 | nil=>rfl
 | cons e l ih=>rw[zEX,zFO,ih,zMG]; rfl
def qAz:K:=G [kO 2 0,kO 3 1,kMi 4 0] (G [D 5 2 0,J 6 5 3,D 7 3 0,J 8 7 3,kC 9 147 [(kt 6),(kt 8)],M 4 9] kr)
theorem qIg:zQ prog Tryz.f146.ntmps (Tryz.f146.body.getD .skip)=some qAz.erase:=by kernel_rfl
@[simp] theorem qLP:zB prog 146=true:=by kernel_rfl
theorem zRz (x y:Edg):Ret prog 146 [.agg (zBk x),.agg (zBk y)] [] (int (zIW x.id y.id)) []:=by refine zI Tryz.func146 rfl qIg (rs:=[.slot 4]) (by kernel_rfl) ?_;unfold qAz;simp -implicitDefEqProofs [zBk];refine qA (zUn x.id y.id) (by simp[zF]) (by simp) ?_;simp -implicitDefEqProofs;exact zA 0 (by simp)
def zZU:Go.Shelf.Ren:=⟨fun | 6=>145 | 15=>121 | 14=>172 | 28=>165 | 29=>166 | 20=>187 | 21=>188 | 22=>189 | 23=>190 | 24=>191 | 25=>192 | 26=>193 | 27=>194 | 46=>201 | 49=>202 | 50=>203 | 57=>209 | 47=>182 | 48=>183 | n=>n,fun | 22=>149 | 24=>155 | 25=>202 | 3=>3 | 39=>181 | 0=>0 | 53=>222 | 55=>224 | 4=>4 | 46=>215 | 45=>214 | 50=>219 | 5=>5 | 9=>9 | 66=>241 | 70=>245 | 76=>256 | 77=>257 | n=>n,fun n=>n⟩
theorem zT4:Go.Proofs.SlLaysF0.n6 prog zZU:={
 mixed:=by kernel_rfl,
 f6:=⟨Tryz.f145.name,by decide,Tryz.func145.trans (congrArg some (by kernel_rfl))⟩,
 f14:=⟨Tryz.f172.name,by decide,Tryz.func172.trans (congrArg some (by kernel_rfl))⟩,
 f15:=Tryz.func121.trans (congrArg some (by kernel_rfl)),
 f20:=⟨Tryz.f187.name,by decide,Tryz.func187.trans (congrArg some (by kernel_rfl))⟩,
 f21:=⟨Tryz.f188.name,by decide,Tryz.func188.trans (congrArg some (by kernel_rfl))⟩,
 f22:=⟨Tryz.f189.name,by decide,Tryz.func189.trans (congrArg some (by kernel_rfl))⟩,
 f23:=⟨Tryz.f190.name,by decide,Tryz.func190.trans (congrArg some (by kernel_rfl))⟩,
 f24:=⟨Tryz.f191.name,by decide,Tryz.func191.trans (congrArg some (by kernel_rfl))⟩,
 f25:=⟨Tryz.f192.name,by decide,Tryz.func192.trans (congrArg some (by kernel_rfl))⟩,
 f26:=⟨Tryz.f193.name,by decide,Tryz.func193.trans (congrArg some (by kernel_rfl))⟩,
 f27:=⟨Tryz.f194.name,by decide,Tryz.func194.trans (congrArg some (by kernel_rfl))⟩,
 f28:=Tryz.func165.trans (congrArg some (by kernel_rfl)),
 f29:=Tryz.func166.trans (congrArg some (by kernel_rfl)),
 f46:=⟨Tryz.f201.name,by decide,Tryz.func201.trans (congrArg some (by kernel_rfl))⟩,
 f47:=Tryz.func182.trans (congrArg some (by kernel_rfl)),
 f48:=Tryz.func183.trans (congrArg some (by kernel_rfl)),
 f49:=⟨Tryz.f202.name,by decide,Tryz.func202.trans (congrArg some (by kernel_rfl))⟩,
 f50:=⟨Tryz.f203.name,by decide,Tryz.func203.trans (congrArg some (by kernel_rfl))⟩,
 f57:=⟨Tryz.f209.name,by decide,Tryz.func209.trans (congrArg some (by kernel_rfl))⟩,
 t0:=Tryz.underlying0,
 a0:=Tryz.isAgg0,
 z0:=Tryz.sizeOf0,
 v0:=Tryz.zeroValue0,
 t3:=Tryz.underlying3,
 a3:=Tryz.isAgg3,
 z3:=Tryz.sizeOf3,
 v3:=Tryz.zeroValue3,
 t4:=Tryz.underlying4,
 a4:=Tryz.isAgg4,
 z4:=Tryz.sizeOf4,
 v4:=Tryz.zeroValue4,
 t5:=Tryz.underlying5,
 a5:=Tryz.isAgg5,
 z5:=Tryz.sizeOf5,
 v5:=Tryz.zeroValue5,
 t9:=Tryz.underlying9,
 a9:=Tryz.isAgg9,
 z9:=Tryz.sizeOf9,
 v9:=Tryz.zeroValue9,
 t22:=Tryz.underlying149,
 a22:=Tryz.isAgg149,
 z22:=Tryz.sizeOf149,
 v22:=Tryz.zeroValue149,
 t25:=Tryz.underlying202,
 a25:=Tryz.isAgg202,
 z25:=Tryz.sizeOf202,
 v25:=Tryz.zeroValue202,
 t39:=Tryz.underlying181,
 a39:=Tryz.isAgg181,
 z39:=Tryz.sizeOf181,
 v39:=Tryz.zeroValue181,
 t45:=Tryz.underlying214,
 a45:=Tryz.isAgg214,
 z45:=Tryz.sizeOf214,
 v45:=Tryz.zeroValue214,
 t46:=Tryz.underlying215,
 a46:=Tryz.isAgg215,
 z46:=Tryz.sizeOf215,
 v46:=Tryz.zeroValue215,
 t50:=Tryz.underlying219,
 a50:=Tryz.isAgg219,
 z50:=Tryz.sizeOf219,
 v50:=Tryz.zeroValue219,
 t53:=Tryz.underlying222,
 a53:=Tryz.isAgg222,
 z53:=Tryz.sizeOf222,
 v53:=Tryz.zeroValue222,
 t55:=Tryz.underlying224,
 a55:=Tryz.isAgg224,
 z55:=Tryz.sizeOf224,
 v55:=Tryz.zeroValue224,
 t66:=Tryz.underlying241,
 a66:=Tryz.isAgg241,
 z66:=Tryz.sizeOf241,
 v66:=Tryz.zeroValue241,
 t70:=Tryz.underlying245,
 a70:=Tryz.isAgg245,
 z70:=Tryz.sizeOf245,
 v70:=Tryz.zeroValue245,
 t76:=Tryz.underlying256,
 a76:=Tryz.isAgg256,
 z76:=Tryz.sizeOf256,
 v76:=Tryz.zeroValue256,
 t77:=Tryz.underlying257,
 a77:=Tryz.isAgg257,
 z77:=Tryz.sizeOf257,
 v77:=Tryz.zeroValue257}
@[simp] theorem qIS:zB prog 145=true:=by kernel_rfl
theorem zYY:∀args w,(callFunc 146 args).run prog w=.ok (.enter 146 args) w:=enters_of Tryz.func146 (by kernel_rfl) rfl
def zVO (E:List Edg):Prop:=∀a∈E,∀b∈E,a.id=b.id→a=b
abbrev zOY (E:List Edg):={e:Edg // e∈E}
def zUm {E:List Edg}(a b:zOY E):Int:=zIW a.1.id b.1.id
theorem zL3 {E:List Edg}(h:zVO E):Ord (zUm (E:=E)) where
 irrefl x:=zDO.irrefl _
 trans x y z:=zDO.trans _ _ _
 ntrans x y z:=zDO.ntrans _ _ _
 anti x y a b:=Subtype.ext (h _ x.2 _ y.2 (zDO.anti _ _ a b))
theorem qEx {E:List Edg}(h:zVO E):zNY prog 145 146 (fun e:zOY E=>zBk e.1) zUm :=
 zYf (k:=9) (fun _=>rfl) (zL3 h) (fun a b=>zRz a.1 b.1) fun α _ enc hk h1 cf hO blk off cap d w hcmp hH hblk hsz =>
  Go.Proofs.AnyQ.slices_SortFunc zT4 9 Tryz.isAgg155 Tryz.sizeOf155 enc hk h1 cf hO 146 #[] blk off cap d w zYY hcmp hH hblk hsz
theorem qKy:∀(p:Option Addr) (cap:Nat) (fv:Value) (w:World),Calls prog 145 #[.slice p 0 cap,fv] w fun e w'=>e=.returned (.tuple #[])∧w'=w :=
 fun p cap fv w=>Go.Proofs.AnyF.slices_SortFunc_none zT4 p cap fv w
def zMh (E:List Edg):List Edg:=(zEr (zUm (E:=E)) (E.attach)).map (·.1)
theorem zPH {E:List Edg}(l:List (zOY E)):l.flatMap (fun e=>zBk e.1)=yN (l.map (·.1)):=by
 induction l with
 | nil=>rfl
 | cons e l ih=>rw[jBh,ih,jAd,zEX]
theorem zYd {E:List Edg}(h:zVO E)(hmx:E.length<4611686018427387904):Ret prog 145 [.row 0 E.length,.clo 146 [] []] [.row false 155 9 E.length (yN E)] (.tup []) [.row false 155 9 E.length (yN (zMh E))]:=by have:=zQX (sz:=9) (by omega) (fun _=>rfl) (fun b:zOY E=>zMG b.1 0) (zL3 h) 155 (qEx h) qKy E.attach (by simpa using hmx);rw[zPH,zPH,List.length_attach]at this;rw[show (E.attach.map (·.1))=E from List.attach_map_subtype_val E]at this;exact this
theorem zCT (E:List Edg):(zMh E).Perm E:=by have h:=(List.mergeSort_perm E.attach fun x y=>!decide (zUm y x<0)).map (·.1);rw[show (E.attach.map (·.1))=E from List.attach_map_subtype_val E]at h;exact h
theorem zYe {E:List Edg}(h:zVO E)(hn:E.Nodup):SS ((zMh E).map (·.id)):=by
 have ho:=zL3 h;have hs:=List.pairwise_mergeSort (le:=fun x y:zOY E=>!decide (zUm y x<0)) (fun a b c h1 h2=>by simp only[jBd,decide_eq_false_iff_not]at *; exact ho.ntrans c b a h2 h1)
  (fun a b=>by
   simp only[jB6,jBd,decide_eq_false_iff_not];by_cases h:zUm b a<0
   ·exact .inr fun h'=>ho.irrefl _ (ho.trans _ _ _ h h')
   ·exact .inl h) E.attach
 have hnd:(zMh E).Nodup:=(zCT E).nodup_iff.2 hn;unfold SS;rw[jDc];have h1:(zMh E).Pairwise fun a b=>¬zIW b.id a.id<0:=by
  unfold zMh;rw[jDc];exact hs.imp fun hab=>by simp only[jBd]at hab;exact of_decide_eq_false hab
 have h2:=List.Pairwise.and h1 hnd;have h3:=List.Pairwise.and_mem.1 h2;exact h3.imp fun {a b} ⟨ha,hb,hc,hne⟩=>by
  cases hl:zA7 a.id b.id with
  | true=>rfl
  | false =>
   rw[zE4]at hc;have hba:zA7 b.id a.id=false:=by simpa using hc
   exact(hne (h a ((zCT E).mem_iff.1 ha) b ((zCT E).mem_iff.1 hb) (zDN hl hba))).elim
def qA0:K:=G [kO 1 0,kMn 2] (G [kMn 3] (Z (G [D 6 1 1,L 7 6 1,kN 8 7,kMi 9 0] (K.block 0 (K.loop (G [kB 10 9 8 .lss] (Z (Y 10 ks (K.exit 0)) (Z (K.block 1 (G [kX 11 7 9 31,J 12 11 31,kZ 5 kz0,S 5 12 31] (G [D 13 5 3,L 14 13 1,kQi 15 14 5 false,M 16 15,T 16 true (D 17 5 8),T 16 true (L 18 17 1),T 16 true (kN 19 18),T 16 true (kQi 20 19 1 false),kPf 21 16 20,M 22 21,T 22 true (D 23 5 8),T 22 true (L 24 23 1),T 22 true (kXi 25 24 11 0),T 22 true (D 26 25 4),T 22 true (D 27 26 0),T 22 true (L 28 27 1),T 22 true (kQi 29 28 3 false),kPf 30 22 29,M 31 30,T 31 true (D 32 5 9),T 31 true (D 33 32 0),T 31 true (L 34 33 1),T 31 true (kQi 35 34 3 false),kPf 36 31 35] (Y 36 (K.dops [(0,0,M 37 3),(1,0,D 38 5 0),(2,0,J 39 38 3),(3,0,D 40 5 8),(4,0,L 41 40 1),(5,0,kXi 42 41 11 0),(6,0,D 43 42 4),(7,0,D 44 43 1),(8,0,J 45 44 3),(9,0,D 46 5 9),(10,0,D 47 46 1),(11,0,J 48 47 3),(12,0,kb 49 [ki,ki,ki,ki,ki,ki,ki,ki,ki] [(0,3,(kt 39)),(3,3,(kt 45)),(6,3,(kt 48))]),(13,0,kd 50 155 9 1 [ki,ki,ki,ki,ki,ki,ki,ki,ki] [(0,9,(kt 49))]),(14,0,kP 51 155 9 72 37 50),(15,0,M 3 51)]) ks)))) (K.ops [kBi 52 9 1 .add,M 9 52]))))))) (G [M 53 3,kC 54 145 [(kt 53),(.func 146)]] (G [M 55 3,M 2 55] kr))))
theorem qIh:zQ prog Tryz.f98.ntmps (Tryz.f98.body.getD .skip)=some qA0.erase:=by kernel_rfl
@[simp] theorem qLQ:zB prog 98=true:=by kernel_rfl
def zDj (p:Prg):List Edg:=p.defs.filterMap yP
theorem zLc {p:Prg}{hs:List Hd}(hf:Fit p hs):zVO (zDj p)∧(zDj p).Nodup:=by
 have hnd:=hf.nd;have key:∀(l:List Dfn),l.Pairwise (fun a b=>a.id≠b.id)→((l.filterMap yP).map (·.id)).Nodup:=by
  intro l;induction l with
  | nil=>intro _; simp
  | cons d l ih =>
   intro h;have h':=jBr.1 h;rw[List.filterMap_cons];cases he:yP d with
   | none=>exact ih h'.2
   | some e =>
    simp only[jAd,jD3];refine⟨fun hm=>?_,ih h'.2⟩;obtain⟨e',he',hid⟩:=jAm.1 hm;obtain⟨d',hd',hde⟩:=jCn.1 he';rw[zE5 he,zE5 hde]at hid;exact h'.1 d' hd' hid.symm
 have hk:=key _ hnd;constructor
 ·intro a ha b hb hab;obtain⟨i,hi,rfl⟩:=jAz ha;obtain⟨j,hj,rfl⟩:=jAz hb;have hab':((zDj p).map (·.id))[i]'(by simpa using hi)=((zDj p).map (·.id))[j]'(by simpa using hj):=by simpa using hab
  have hij:=(List.getElem_inj hk).1 hab';subst hij;rfl
 ·exact List.Pairwise.of_map (·.id) (fun a b h e=>h (by rw[e])) hk
theorem zG2 {p:Prg}{hs:List Hd}(hf:Fit p hs):zMh (zDj p)=zBh p:=by
 obtain⟨h1,h2⟩:=zLc hf;refine zOk hf (zYe h1 h2) fun e=>?_
 rw[(zCT _).mem_iff];unfold zDj;rw[jCn]
theorem zW6 {p:Prg}{hs:List Hd}(hf:Fit p hs):Ret prog 98 [.agg (zK p)] [] (.sl (zBh p).length (yN (zBh p))) []:=by
 have hP:=eP p;have hL:=hf.len8;refine zI Tryz.func98 rfl qIh (rs:=[.slot 2]) (by kernel_rfl) ?_;unfold qA0;simp -implicitDefEqProofs [hP];intro hlm;have hlen:∀i,((p.defs.take i).filterMap yP).length≤100:=fun i=>by have:=jDj yP (p.defs.take i);rw[jAs]at this;omega
 refine jQ (S:=Nat) (fun i=>[(3,.row 1 ((p.defs.take i).filterMap yP).length),(7,.sl p.defs.length (qK p.defs)),(8,int p.defs.length),(9,int i)]) (fun i=>[.box (zK p),.row false 155 9 ((p.defs.take i).filterMap yP).length (yN ((p.defs.take i).filterMap yP))])
  (fun i=>i≤p.defs.length) (fun i=>p.defs.length-i) 0 (by simp)
  ((zAE (t:=3) (by simp) 155 9).trans (zT [0,1] 0 (by decide) (by simp) (by simp[hP]) (by simp))) ?_
 intro i hi;have hln:=hlen i;by_cases h:i<p.defs.length
 ·have hw:=zA9 i (by omega);have hts:p.defs.take (i+1)=p.defs.take i++[p.defs[i]]:=jA9 h;generalize hE:(p.defs.take i).filterMap yP=E at *
  have hE':(p.defs.take (i+1)).filterMap yP=E++(yP p.defs[i]).toList:=by rw[hts,List.filterMap_append,hE];cases h:yP p.defs[i]<;>simp[List.filterMap_cons,h]
  simp -implicitDefEqProofs [hP,h,zAF h];generalize hd:p.defs[i]=d at *
  by_cases hk:d.kind=5
  ·match hsl:d.slots with
   | [s] =>
    have hcs:yT [s]=yQ s:=by simp[yT]
    by_cases h3:s.typ.k=3
    ·by_cases h4:d.res.k=3
     ·have hed:yP d=some ⟨d.id,s.typ.id,d.res.id⟩:=by simp[yP,hk,hsl,h3,h4]
      rw[hed]at hE';simp -implicitDefEqProofs [zG,hk,hsl,hcs,yQ,h3,h4];exact fun _=>⟨⟨by simp[maxLen]; omega,by omega⟩,zR (i+1) h (by omega) (zT [0,1] 0 (by decide) (by simp) (by simp[hP,hE',zKP,zEX,zBk]) (by simp[hw,hE']))⟩
     ·have hed:yP d=none:=by simp[yP,hk,hsl,h4]
      rw[hed]at hE';simp -implicitDefEqProofs [zG,hk,hsl,hcs,yQ,h3,h4]
      first | exact fun _=>zR (i+1) h (by omega) (zT [0,1] 0 (by decide) (by simp) (by simp[hP,hE']) (by simp[hw,hE'])) | exact zR (i+1) h (by omega) (zT [0,1] 0 (by decide) (by simp) (by simp[hP,hE']) (by simp[hw,hE']))
    ·have hed:yP d=none:=by simp[yP,hk,hsl,h3]
     rw[hed]at hE';simp -implicitDefEqProofs [zG,hk,hsl,hcs,yQ,h3]
     first | exact fun _=>zR (i+1) h (by omega) (zT [0,1] 0 (by decide) (by simp) (by simp[hP,hE']) (by simp[hw,hE'])) | exact zR (i+1) h (by omega) (zT [0,1] 0 (by decide) (by simp) (by simp[hP,hE']) (by simp[hw,hE']))
   | [] =>
    have hed:yP d=none:=by simp[yP,hsl]
    rw[hed]at hE';simp -implicitDefEqProofs [zG,hk,hsl]
    first | exact fun _=>zR (i+1) h (by omega) (zT [0,1] 0 (by decide) (by simp) (by simp[hP,hE']) (by simp[hw,hE'])) | exact zR (i+1) h (by omega) (zT [0,1] 0 (by decide) (by simp) (by simp[hP,hE']) (by simp[hw,hE']))
   | s::s'::l =>
    have hed:yP d=none:=by simp[yP,hsl]
    rw[hed]at hE';have h1:¬((l.length:Int)+1+1=1):=by omega
    simp -implicitDefEqProofs [zG,hk,hsl,h1]
    first | exact fun _=>zR (i+1) h (by omega) (zT [0,1] 0 (by decide) (by simp) (by simp[hP,hE']) (by simp[hw,hE'])) | exact zR (i+1) h (by omega) (zT [0,1] 0 (by decide) (by simp) (by simp[hP,hE']) (by simp[hw,hE']))
  ·have hed:yP d=none:=by simp[yP,hk]
   rw[hed]at hE';simp -implicitDefEqProofs [zG,hk];exact zR (i+1) h (by omega) (zT [0,1] 0 (by decide) (by simp) (by simp[hP,hE']) (by simp[hw,hE']))
 ·have hi':i=p.defs.length:=by omega
  subst hi';have hE:(p.defs.take p.defs.length).filterMap yP=zDj p:=by rw[jB1]; rfl
  rw[hE];have hle:(zDj p).length≤100:=by have:=jDj yP p.defs; unfold zDj; omega
  obtain⟨g1,g2⟩:=zLc hf;simp -implicitDefEqProofs [hP];refine jO (zYd g1 (by omega)) [1] (by simp) (by simp) (by simp) ?_;simp -implicitDefEqProofs [hP];rw[zG2 hf,show (zDj p).length=(zBh p).length by rw[←zG2 hf]; exact(zCT _).length_eq.symm];exact zA 1 (by simp)
end Go.Proofs.YtdnelmeboihpkaaGreatDoor
namespace Go.Proofs.YtdnelmeboihpkaaGreatDoor
open Go.Abs
def mrk (l:List Id):List (List Int×A):=l.map fun x=>(zH8 x,.lit (.bool true))
theorem zLD {x y:Id}:zH8 x=zH8 y↔x=y:=by simp[zH8,Id.eq_iff]
theorem zMY (x:Id):∀l:List Id,zBJ (zH8 x) (mrk l)=if x∈l then some (.lit (.bool true)) else none
 | []=>rfl
 | y::l=>by
  have ih:=zMY x l;simp only[mrk,jAd,zBJ]at ih ⊢;by_cases h:y=x
  ·subst h; simp
  ·rw[if_neg fun e=>h (zLD.1 e),ih];simp[Ne.symm h]
theorem zLR (x:Id):∀l:List Id,x∉l→putI (zH8 x) (.lit (.bool true)) (mrk l)=mrk (l++[x])
 | [],_=>rfl
 | y::l,h=>by simp only[jA6,not_or]at h;have ih:=zLR x l h.2;simp only[mrk,jAd,putI,jB4]at ih ⊢;rw[if_neg fun e=>h.1 (zLD.1 e).symm,ih]
theorem zP6 (x:Id):∀l:List Id,x∉l→zIY (zH8 x) (mrk (l++[x]))=mrk l
 | [],_=>by simp[mrk,zIY]
 | y::l,h=>by simp only[jA6,not_or]at h;have ih:=zP6 x l h.2;simp only[mrk,jAd,zIY,jB4]at ih ⊢;rw[if_neg fun e=>h.1 (zLD.1 e).symm,ih]
theorem zLw (x:Id)(l:List Id):zFo (Value.bool false) false (zBJ [x.a,x.b,x.c] (mrk l))=.lit (.bool (decide (x∈l))):=by have hf:=zMY x l;simp only[zH8]at hf;rw[hf];by_cases h:x∈l<;>simp[zFo,h,zFy,qS]
@[simp] theorem qQ0 {rf g}(l:List Id):(mrk l).map (fun p=>(p.1,vw rf g p.2))=mrk l:=by unfold mrk;rw[jCc];exact jBs fun x _=>by simp
theorem zKC {marked:List Id}{x:Id}:∀(l:List Edg) (M:List Id),(zEs marked x l M).length≤M.length+l.length
 | [],M=>by simp[zEs]
 | e::l,M=>by
  simp only[zEs,jAk];split
  ·have:=zKC (marked:=marked) (x:=x) l (M++[e.to]);simp only[jA7,jC0]at this;omega
  ·have:=zKC (marked:=marked) (x:=x) l M;omega
def qA7:K:=G [kO 5 1,kO 6 2,kMb 8 false] (G [⟨none,.mop (some 14) (.mk 3) []⟩,J 15 5 3,⟨none,.mop none (.set 3) [(kt 14),(kt 15),(.const (.bool true))]⟩,M 16 14,M 9 16] (G [J 17 5 3,⟨none,.brow (some 18) 31 3 1 [ki,ki,ki] [(0,3,(kt 17))]⟩,M 10 18] (Z (K.block 0 (K.loop (Z (G [M 19 10,kN 20 19,kBi 21 20 0 .gtr] (Y 21 ks (K.exit 0))) (K.block 1 (G [M 22 10,kXi 23 22 3 0,J 24 23 3,kZ 11 [ki,ki,ki],S 11 24 3] (G [M 25 10,⟨none,.rslc (some 26) (kt 25) 3 (some (kc 1)) none⟩,M 10 26] (Z (G [J 27 11 3,J 28 6 3,⟨none,.eqs (some 29) false [.i,.i,.i] (kt 27) (kt 28)⟩] (Y 29 (G [kMb 8 true] kr) ks)) (G [M 30 0,kN 31 30,kMi 32 0] (K.block 2 (K.loop (G [kB 33 32 31 .lss] (Z (Y 33 ks (K.exit 2)) (Z (K.block 3 (G [kX 34 30 32 9,J 35 34 9,kZ 13 [ki,ki,ki,ki,ki,ki,ki,ki,ki],S 13 35 9] (G [D 36 13 3,J 37 36 3,J 38 11 3,⟨none,.eqs (some 39) false [.i,.i,.i] (kt 37) (kt 38)⟩,M 40 39,T 40 true (M 41 9),T 40 true (D 42 13 6),T 40 true (J 43 42 3),⟨some (40,true),.mop (some 44) (.get 3 (.bool false) false) [(kt 41),(kt 43)]⟩,T 40 true (kR 45 44),kPf 46 40 45,M 47 46,T 47 true (M 48 3),T 47 true (D 49 13 6),T 47 true (J 50 49 3),⟨some (47,true),.mop (some 51) (.get 3 (.bool false) false) [(kt 48),(kt 50)]⟩,T 47 true (kR 52 51),kPf 53 47 52] (Y 53 (G [M 54 9,D 55 13 6,J 56 55 3,⟨none,.mop none (.set 3) [(kt 54),(kt 56),(.const (.bool true))]⟩] (K.ops [M 57 10,D 58 13 6,J 59 58 3,kd 60 31 3 1 [ki,ki,ki] [(0,3,(kt 59))],⟨none,.apq (some 61) 31 3 24 (kt 57) (kt 60)⟩,M 10 61])) ks)))) (K.ops [kBi 62 32 1 .add,
 M 32 62])))))))))))))) (G [kMb 8 false] kr))))
theorem qIo:zQ prog Tryz.f101.ntmps (Tryz.f101.body.getD .skip)=some qA7.erase:=by kernel_rfl
@[simp] theorem qLW:zB prog 101=true:=by kernel_rfl
open Classical in
theorem zSv (L:List Edg)(hL:L.length≤1000)(fro to:Id)(marked:List Id)(fr:Bool) :
 Ret prog 101 [.sl L.length (yN L),.agg (zF fro),.agg (zF to),.map 0] [.mp fr 3 (mrk marked)] (bl (decide (Rchs L to marked fro))) [.mp fr 3 (mrk marked)]:=by
 refine zI Tryz.func101 rfl qIo (rs:=[.slot 8]) (by kernel_rfl) ?_;unfold qA7;have hm1:putI [fro.a,fro.b,fro.c] (.lit (.bool true)) []=mrk [fro]:=rfl;simp -implicitDefEqProofs [zF,hm1];refine jQ (S:=List Id×List Id×List Id) (fun s=>[(0,.sl L.length (yN L)),(3,.map 0),(5,.ptr 1 0),(6,.ptr 2 0),(8,bl false),(9,.map 3),(10,.win 4 (s.1.length+s.2.2.length) (s.1.length*3) s.2.2.length 3)])
  (fun s=>[.mp fr 3 (mrk marked),.box (zF fro),.box (zF to),.mp true 3 (mrk (s.2.1++s.2.2)),.row false 31 3 (s.1.length+s.2.2.length) (zO (s.1++s.2.2))])
  (fun s=>Bfs L to marked fro (s.2.1++s.2.2) s.2.1.length∧s.1.length≤s.2.1.length) (fun s=>L.length+1-s.2.1.length) ([],[],[fro]) ⟨Bfs.start L to marked fro,by simp⟩ ?_ ?_
 ·refine(zYs (t:=10) (l:=4) (m:=1) (sz:=3) (by simp) rfl).trans (zT [0,1,2,3,4] 0 (by decide) (by simp) (by simp[zF]) (by simp))
 rintro⟨junk,dn,live⟩ ⟨hb,hj⟩;simp only at hb hj;have hM:=hb.len;rw[jA7]at hM
 match hlive:live with
 | [] =>
  have hno:=hb.no (by simp);simp -implicitDefEqProofs;exact zL [0] 0 (by simp) (by simp) (by simp) (by simp[hno])
 | x::rest =>
  have hpos:(0:Int)<(rest.length:Int)+1:=by omega
  have hlt:junk.length*3+3≤(junk.length+(rest.length+1))*3:=by omega
  have hk:dn.length<(dn++x::rest).length:=by simp
  have hx:(dn++x::rest)[dn.length]=x:=by simp
  have hdr:(zO (junk++x::rest)).drop (junk.length*3)=zF x++zO rest:=by rw[zDu,List.drop_left,zCZ]; rfl
  simp only[jAk]at hM;by_cases hto:x=to
  ·have hyes:=hb.yes hk (hx.trans hto);subst hto;simp -implicitDefEqProofs [hpos,hdr,zF,hlt];exact⟨by omega,zL [0] 0 (by simp) (by simp) (by simp) (by simp[hyes])⟩
  ·have hnx:=hb.next hk (by rw[hx]; exact hto);rw[hx]at hnx;simp -implicitDefEqProofs [hpos,hdr,zF,hlt,hto];refine⟨by omega,fun _=>?_⟩;have hsh:junk.length+1+rest.length=junk.length+(rest.length+1):=by omega
   refine jQ (S:=Nat×List Id×List Id) (fun s=>[(0,.sl L.length (yN L)),(3,.map 0),(5,.ptr 1 0),(6,.ptr 2 0),(8,bl false),(9,.map 3),(10,.win 4 (s.2.1.length+s.2.2.length) (s.2.1.length*3) s.2.2.length 3),(11,.ptr 5 0),(30,.sl L.length (yN L)),(31,int L.length),(32,int s.1)])
    (fun s=>[.mp fr 3 (mrk marked),.box (zF fro),.box (zF to),.mp true 3 (mrk (dn++x::s.2.2)),.row false 31 3 (s.2.1.length+s.2.2.length) (zO (s.2.1++s.2.2)),.box (zF x)])
    (fun s=>s.1≤L.length∧zEs marked x (L.take s.1) (dn++x::rest)=dn++x::s.2.2∧s.2.1.length≤dn.length+1) (fun s=>L.length-s.1) (0,junk++[x],rest) ⟨by simp,by simp[zEs],by simp; omega⟩
    (zT [0,1,2,3,4,5] 0 (by decide) (by simp) (by simp[zF,hsh]) (by simp[jAu,hsh])) ?_
   rintro⟨j,jk,lv⟩ ⟨hjl,hN,hjk⟩;simp only at hjl hN hjk;have hlen:=zKC (marked:=marked) (x:=x) (L.take j) (dn++x::rest);rw[hN]at hlen;simp only[jA7,jAk,jAs]at hlen;by_cases h:j<L.length
   ·have hw:=zA9 j (by omega);have hsn:=zMB marked x L[j] (L.take j) (dn++x::rest);rw[←jA9 h,hN]at hsn;have hg1:=zLw L[j].to (dn++x::lv);have hg2:=zLw L[j].to marked;have hput:=zLR L[j].to (dn++x::lv);have hMj:dn++x::(lv++[L[j].to])=dn++x::lv++[L[j].to]:=by simp
    have hcs:zO (lv++[L[j].to])=zO lv++zF L[j].to:=by rw[yR]; rfl
    have hdl:(zO (jk++lv)).drop (jk.length*3)=zO lv:=by rw[zDu,List.drop_left]
    simp only[zH8]at hput;generalize hM0:dn++x::lv=Mj at *
    by_cases c1:L[j].fro=x
    ·by_cases c2:L[j].to∈Mj
     ·rw[if_neg (by simp[c2])]at hsn;simp -implicitDefEqProofs [h,zBv h,zBk,zF,c1,hg1,c2];exact zR (j+1,jk,lv) ⟨h,by rw[hsn,hM0],hjk⟩ (by simp only; omega) (zT [0,1,2,3,4,5] 0 (by decide) (by simp) (by simp[zF,hM0]) (by simp[hw]))
     ·by_cases c3:L[j].to∈marked
      ·rw[if_neg (by simp[c3])]at hsn;simp -implicitDefEqProofs [h,zBv h,zBk,zF,c1,hg1,c2,hg2,c3];exact zR (j+1,jk,lv) ⟨h,by rw[hsn,hM0],hjk⟩ (by simp only; omega) (zT [0,1,2,3,4,5] 0 (by decide) (by simp) (by simp[zF,hM0]) (by simp[hw]))
      ·rw[if_pos ⟨c1,c2,c3⟩]at hsn;simp -implicitDefEqProofs [h,zBv h,zBk,zF,c1,hg1,c2,hg2,c3,hput c2];refine⟨?_,?_,?_⟩
       ·exact⟨rfl,by omega,rfl,rfl,rfl,rfl,by omega,by simp[maxLen]; omega,by omega⟩
       ·exact zR (j+1,jk,lv++[L[j].to]) ⟨h,by rw[hsn,hMj],hjk⟩ (by simp only; omega) (zT [0,1,2,3,4,5] 0 (by decide) (by simp) (by simp[zF,hMj,yR,jBf]) (by simp[hw,jBf]))
       ·exact zR (j+1,[],lv++[L[j].to]) ⟨h,by rw[hsn,hMj],by simp⟩ (by simp only; omega) (zT [0,1,2,3,7,5] 0 (by decide) (by simp) (by simp[zF,hMj,hdl,yR]) (by simp[hw]))
    ·rw[if_neg (by simp[c1])]at hsn;simp -implicitDefEqProofs [h,zBv h,zBk,zF,c1];exact zR (j+1,jk,lv) ⟨h,by rw[hsn,hM0],hjk⟩ (by simp only; omega) (zT [0,1,2,3,4,5] 0 (by decide) (by simp) (by simp[zF,hM0]) (by simp[hw]))
   ·have hjl':j=L.length:=by omega
    subst hjl';rw[jB1]at hN;rw[hN]at hnx;simp -implicitDefEqProofs;exact zR (jk,dn++[x],lv) ⟨by simpa using hnx,by simpa using hjk⟩ (by simp only[jA7,jC0]; omega) (zT [0,1,2,3,4] 0 (by decide) (by simp) (by simp[zF]) (by simp))
end Go.Proofs.YtdnelmeboihpkaaGreatDoor
namespace Go.Abs
section
variable {P:Program}{env:Env}{d:Option Nat} {σ : St}
theorem zTh {K:Env→St→Prop}{f:FuncId}{args args':List A}{r:A}{s0 s1:St}(h:Ret P f args s0 r (s0++s1))(js:List Nat)(hjs:js.Nodup)(hlen:s0.length=js.length)(ho:yW σ jL (zY js) js s0)(ha:zB6 js args' args)
 (hput:qR σ js (s0.map (zAM js σ.length)) = σ)(hq:K (env.put d (ren js σ.length r)) (σ++s1.map (zAM js σ.length))):zIK P σ d K f args' env :=
 ⟨_,_,zAp.append _ _,zAW h js hjs ho ha ⟨rfl,by
  have:=zHF (js:=js) (ks:=[]) (s:=σ) (a:=s0.map (zAM js σ.length)) (b:=s1.map (zAM js σ.length)) (by simpa using hlen);rw[jC5,hput]at this;rw[jCi,this,qR]⟩,hq⟩
end
end Go.Abs
namespace Go.Proofs.YtdnelmeboihpkaaGreatDoor
open Go.Abs
theorem zP3 (l:List Id)(h:l≠[])(hb:l.length≤1000000):Ret prog 100 [.row 0 l.length] [.row false 31 3 l.length (zO l)] (.row 1 l.length) ([.row false 31 3 l.length (zO l)]++[.row false 31 3 l.length (zO l)]):=by
 refine zI Tryz.func100 rfl zVZ (rs:=[.slot 2]) (by kernel_rfl) ?_;unfold zRl;have h0:l.length≠0:=by simpa using h
 simp -implicitDefEqProofs [h,h0,zUR];refine⟨⟨by simp[maxLen]; omega,by omega⟩,?_⟩;exact zL [0,1] 0 (by decide) (by simp) (by simp) (by simp)
theorem zOe:Ret prog 100 [.row 0 0] [.row false 31 3 0 []] (.sl 0 []) ([.row false 31 3 0 []]++[]):=by refine zI Tryz.func100 rfl zVZ (rs:=[.slot 2]) (by kernel_rfl) ?_;unfold zRl;simp -implicitDefEqProofs [zUR];exact⟨zL [0] 0 (by simp) (by simp) (by simp) (by simp),zL [0] 0 (by simp) (by simp) (by simp) (by simp)⟩
@[simp] theorem zKK:∀(l:List Id) (k:Nat),zBm k (zO l)=true
 | [],_=>rfl
 | d::l,k=>by rw[zCZ]; simp[zKK l k]
def zHj (L:List Edg)(to:Id)(n:Nat)(at_:Id)(met:List Id)(e:Edg):List (List Id):=if e.fro=at_∧e.to∉met then (zB7 L to n e.to (met++[e.to])).map (e.id::·) else []
theorem zRD {L:List Edg}{to:Id}{n:Nat}{at_:Id}{met:List Id}(h:at_≠to)(hn:zJY L met≤n):zB7 L to n at_ met=L.flatMap (zHj L to (n-1) at_ met):=by
 cases n with
 | zero =>
  unfold zB7;rw[if_neg h];symm;rw[List.flatMap_eq_nil_iff];intro e he;unfold zHj;rw[if_neg];rintro⟨_,h'⟩;have:=zE7 he h';omega
 | succ n =>
  unfold zB7;rw[if_neg h];rfl
theorem zVg {L:List Edg}{to:Id}{n:Nat}{at_:Id}{met:List Id}{e:Edg}(he:e∈L)(hn:zJY L met≤n)(h:e.fro≠at_∨e.to∈met∨¬Rchs L to met e.to):zHj L to (n-1) at_ met e=[]:=by
 unfold zHj;by_cases hc:e.fro=at_∧e.to∉met
 ·rw[if_pos hc];rcases h with h | h | h
  ·exact(h hc.1).elim
  ·exact(hc.2 h).elim
  ·have hlt:=zE7 he hc.2;have:=zLh (n-1) e.to (met++[e.to]) (L:=L) (to:=to) (by omega);rw[List.map_eq_nil_iff];refine Decidable.byContradiction fun h0=>h ?_
   exact(this.1 h0).mono fun x hx=>jBi _ hx
 ·rw[if_neg hc]
def qAA:K:=K.wk (G [kO 7 0,kMb 8 false] (Z (G [J 12 7 3,J 13 1 3,⟨none,.eqs (some 14) false [.i,.i,.i] (kt 12) (kt 13)⟩] (Y 14 (Z (K.dops [(0,1,L 15 2 1),(1,1,L 16 3 1),(2,3,kC 17 100 [(kt 16)]),(3,4,⟨none,.call (some 18) (kt 15) [(kt 17)]⟩),(4,0,M 8 18)]) kr) ks)) (Z (G [L 19 4 1,kN 20 19,kMi 21 0] (K.block 0 (K.loop (G [kB 22 21 20 .lss] (Z (Y 22 ks (K.exit 0)) (Z (K.block 1 (G [kX 23 19 21 9,J 24 23 9,kZ 10 [ki,ki,ki,ki,ki,ki,ki,ki,ki],S 10 24 9] (Z (G [D 25 10 3,J 26 25 3,J 27 7 3,⟨none,.eqs (some 28) true [.i,.i,.i] (kt 26) (kt 27)⟩,M 29 28,T 29 false (L 30 5 1),T 29 false (D 31 10 6),T 29 false (J 32 31 3),⟨some (29,false),.mop (some 33) (.get 3 (.bool false) false) [(kt 30),(kt 32)]⟩,kPt 34 29 33,M 35 34,T 35 false (L 36 4 1),T 35 false (D 37 10 6),T 35 false (J 38 37 3),T 35 false (J 39 1 3),T 35 false (L 40 5 1),T 35 false (kC 41 101 [(kt 36),(kt 38),(kt 39),(kt 40)]),T 35 false (kR 42 41),kPt 43 35 42] (Y 43 (K.exit 1) ks)) (G [L 44 5 1,D 45 10 6,J 46 45 3,⟨none,.mop none (.set 3) [(kt 44),(kt 46),(.const (.bool true))]⟩] (G [L 47 3 1,D 48 10 0,J 49 48 3,kd 50 31 3 1 [ki,ki,ki] [(0,3,(kt 49))],kP 51 31 3 24 47 50,S 3 51 1] (G [L 52 6 1,D 53 10 6,J 54 53 3,⟨none,.call (some 55) (kt 52) [(kt 54)]⟩,M 11 55] (G [L 56 3 1,L 57 3 1,kN 58 57,kBi 59 58 1 .sub,⟨none,.shr (some 60) (kt 56) 3 (kt 59)⟩,S 3 60 1] (G [L 61 5 1,D 62 10 6,J 63 62 3,⟨none,.mop none (.del 3) [(kt 61),(kt 63)]⟩] (G [M 64 11,kR 65 64] (Y 65 (G [kMb 8 false] kr) ks)))))))))) (K.ops [kBi 66 21 1 .add,
 M 21 66]))))))) (G [kMb 8 true] kr))))
def qJ7:Nat→Option (List (Nat×Nat)):=fun r=>match r with | 2=>some [(0,1),(1,1),(2,3),(3,4),(4,0)] | _=>none
theorem qIr:qG prog Tryz.f99.ntmps qJ7 (Tryz.f99.body.getD .skip)=some qAA.erase:=by kernel_rfl
@[simp] theorem zYI:zB prog 99=true:=by kernel_rfl
def zD3 (b m:Nat)(L:List Edg)(to:Id)(fr:Bool)(met:List Id)(l n:Nat):St :=
 [.box [yv b],.box [.sl L.length (yN L)],.mp fr 3 (mrk met),.box [.map (m+2)],.box [.row (m+l) n],.box [.clo 99 [] [.rptr (zF to),.ptr m 0,.ptr (m+4) 0,.ptr (m+1) 0,.ptr (m+3) 0,.ptr (m+5) 0]]]
def zMA (b m:Nat)(L:List Edg)(to:Id)(fr:Bool)(met path:List Id):St:=zD3 b m L to fr met 6 path.length++[AObj.row false 31 3 path.length (zO path)]
def zK1 (b m:Nat)(L:List Edg)(to:Id)(met path:List Id):St:=zD3 b m L to false met 7 path.length++[AObj.dead,AObj.row false 31 3 path.length (zO path)]
theorem zYr {n0 b m:Nat}{L:List Edg}{to:Id}{fr:Bool}{met path:List Id}{S:St}(hS:S.length=m){env:Env}:zAD n0 env (S++zK1 b m L to met path) env (S++zMA b m L to fr met path):=by
 have h1:=qAq (n0:=n0) (env:=env) (σ:=S++zMA b m L to fr met path) (j:=m+4) (o:=0) (l:=m+6) (n:=path.length) (sz:=3) (e:=31) (ds:=[.row (m+6) path.length]) (cs:=zO path)
  (by rw[zAc hS]; rfl) rfl (by rw[zAc hS]; rfl)
 have e1:((S++zMA b m L to fr met path).set (m+6) .dead).set (m+4) (.box ([A.row (m+6) path.length].set 0 (.row (S++zMA b m L to fr met path).length path.length)))++[AObj.row false 31 3 path.length (zO path)] =
  S++(zD3 b m L to fr met 7 path.length++[AObj.dead,AObj.row false 31 3 path.length (zO path)]):=by
  rw[zAO hS,zAO hS,jB2,jA7,hS];simp[zMA,zD3]
 rw[e1]at h1;have h2:=zMn (n0:=n0) (env:=env) (σ:=S++(zD3 b m L to fr met 7 path.length++[AObj.dead,AObj.row false 31 3 path.length (zO path)])) (l:=m+2) (nk:=3) (fr:=fr) (es:=mrk met) (by rw[zAc hS]; rfl);have e2:(S++(zD3 b m L to fr met 7 path.length++[AObj.dead,AObj.row false 31 3 path.length (zO path)])).set (m+2) (.mp false 3 (mrk met))=S++zK1 b m L to met path:=by rw[zAO hS];simp[zK1,zD3]
 rw[e2]at h2;exact h1.trans h2
def zK9 (m:Nat)(at_ to:Id):List A:=[.agg (zF at_),.rptr (zF to),.ptr m 0,.ptr (m+4) 0,.ptr (m+1) 0,.ptr (m+3) 0,.ptr (m+5) 0]
theorem zVm {L:List Edg}(hL:L.length≤1000)(to:Id)(b m:Nat)(T:Nat→St)(X:List (List A))(hT:∀i,i≤X.length→Cl m (T i))
 (hY:∀i (h:i<X.length),zC0 prog b X[i] (T i) fun o τ=>o=.ret (.lit (.bool true))∧τ = T (i+1)) :
 ∀(n:Nat) (at_:Id) (met path:List Id) (fr:Bool) (i:Nat),zJY L met≤n→path.length+n≤2000→i+(zB7 L to n at_ met).length≤X.length →
  (∀q (hq:q<(zB7 L to n at_ met).length) (h:i+q<X.length),X[i+q]=[.sl (path++(zB7 L to n at_ met)[q]).length (zO (path++(zB7 L to n at_ met)[q]))]) →
  Ret prog 99 (zK9 m at_ to) (T i++zMA b m L to fr met path) (bl true) (T (i+(zB7 L to n at_ met).length)++zK1 b m L to met path):=by
 intro n;induction n using Nat.strongRecOn with
 | ind n ih =>
 intro at_ met path fr i hn hpn hi hX
 have hTi:=hT i (by omega);have hTe:=hT (i+(zB7 L to n at_ met).length) hi;have hlen0:(T i++zMA b m L to fr met path).length=m+7:=by rw[jA7,hTi.1]; simp[zMA,zD3]
 refine qP Tryz.func99 rfl qIr (rs:=[.slot 8]) (by kernel_rfl) ?_;unfold qAA;rw[qEP,hlen0];rw[qEQ];refine⟨_,_,zYr hTi.1,?_⟩;unfold zK9;simp -implicitDefEqProofs [zK1,zD3,hTi.1,zAc hTi.1,zAm hTi.1,zF];by_cases hat:at_=to
 ·have hE:zB7 L to n at_ met=[[]]:=by subst hat; cases n<;>simp[zB7]
  subst hat;rw[hE]at hX hTe hi;simp only[jC0]at hX hTe hi;have hyi:=hY i (by omega);have hXi:=hX 0 (by omega) (by omega);simp only[jBp,jDh,jC5]at hXi;rw[hXi]at hyi;rw[hE,jC0];simp -implicitDefEqProofs [hTi.1,zAc hTi.1,zAm hTi.1,zHV];by_cases hp:path=[]
  ·subst hp;refine zTh zOe [m+7] (by simp) rfl (by simp[zAc hTi.1]) (by simp) (by simp[zAO hTi.1]) ?_;simp -implicitDefEqProofs [hTi.1,zAc hTi.1,zAm hTi.1];refine⟨_,_,zIU hTi hTe hyi (by simp) ⟨rfl,rfl⟩,?_⟩;exact zJ2 (own':=zK1 b m L at_ met []) hTe rfl [0,1,2,3,4,5,6,7] 0 (by decide) (by decide) (by simp[zK1,zD3,zF]) (by simp)
  ·refine zTh (zP3 path hp (by omega)) [m+7] (by simp) rfl (by simp[zAc hTi.1]) (by simp) (by simp[zAO hTi.1]) ?_;simp -implicitDefEqProofs [hTi.1,zAc hTi.1,zAm hTi.1];refine exY (k:=9) rfl hTi hTe (zKK path 0) hyi ?_;simp -implicitDefEqProofs;exact zJ2 (own':=zK1 b m L at_ met path) hTe rfl [0,1,2,3,4,5,6,7] 0 (by decide) (by decide) (by simp[zK1,zD3,zF]) (by simp)
 ·have hE:=zRD (L:=L) (n:=n) (met:=met) hat hn;generalize hEE:zB7 L to n at_ met=E at *
  have hspl:∀j,E=(L.take j).flatMap (zHj L to (n-1) at_ met)++(L.drop j).flatMap (zHj L to (n-1) at_ met):=fun j=>by rw[←jCf,jBn]; exact hE
  obtain⟨cnt,hcd⟩:∃cnt:Nat→Nat,∀j,cnt j=((L.take j).flatMap (zHj L to (n-1) at_ met)).length:=⟨_,fun _=>rfl⟩;have hcnt:∀j,cnt j≤E.length:=fun j=>by rw[hcd,hspl j,jA7]; omega
  have hc0:cnt 0=0:=by rw[hcd]; simp
  have hcL:cnt L.length=E.length:=by rw[hcd,jB1,hE]
  simp -implicitDefEqProofs [hTi.1,zAc hTi.1,zAm hTi.1,hat];intro hlm;refine jQ (S:=Nat) (fun j=>[(1,.rptr (zF to)),(2,.ptr m 0),(3,.ptr (m+4) 0),(4,.ptr (m+1) 0),(5,.ptr (m+3) 0),(6,.ptr (m+5) 0),(7,.ptr (m+8) 0),(19,.sl L.length (yN L)),(20,int L.length),(21,int j)])
   (fun j=>T (i+cnt j)++(zD3 b m L to false met 7 path.length++[AObj.dead,AObj.row false 31 3 path.length (zO path),AObj.box (zF at_)]))
   (fun j=>j≤L.length) (fun j=>L.length-j) 0 (by simp) ?_ ?_
  ·rw[hc0];exact zNP hTi rfl [0,1,2,3,4,5,6,7,8] 0 (by decide) (by decide) (by simp[zD3,zF]) (by simp[zF])
  intro j hj;have hTj:=hT (i+cnt j) (by have:=hcnt j; omega);by_cases h:j<L.length
  ·have hw:=zA9 j (by omega);have hel:L[j]∈L:=jA3 h;have hsucc:cnt (j+1)=cnt j+(zHj L to (n-1) at_ met L[j]).length:=by rw[hcd,hcd,jA9 h,jCf,List.flatMap_singleton,jA7]
   have hle:=hcnt (j+1);have hg:=zLw L[j].to met;have hnone:=zVg (L:=L) (to:=to) (at_:=at_) (met:=met) hel hn;by_cases c1:L[j].fro=at_
   ·by_cases c2:L[j].to∈met
    ·rw[hnone (.inr (.inl c2)),jBo,jBp]at hsucc;simp -implicitDefEqProofs [zD3,hTj.1,zAc hTj.1,zAm hTj.1,zAO hTj.1,h,zBv h,zBk,zF,c1,c2,hg];refine zR (j+1) h (by omega) ?_;rw[hsucc];exact zNP hTj rfl [0,1,2,3,4,5,6,7,8] 0 (by decide) (by decide) (by simp[zD3,zF]) (by simp[zF,hw])
    ·simp -implicitDefEqProofs [zD3,hTj.1,zAc hTj.1,zAm hTj.1,zAO hTj.1,h,zBv h,zBk,zF,c1,c2,hg];refine jO (zSv L hL L[j].to to met false) [m+2] (by simp) (by simp[zAc hTj.1]) (by simp[zF]) ?_;simp -implicitDefEqProofs [hTj.1,zAc hTj.1,zAm hTj.1,zAO hTj.1];by_cases c3:Rchs L to met L[j].to
     ·have hlt:=zE7 hel c2;have hpe:zHj L to (n-1) at_ met L[j]=(zB7 L to (n-1) L[j].to (met++[L[j].to])).map (L[j].id::·):=by rw[zHj,if_pos ⟨c1,c2⟩]
      have hput:=zLR L[j].to met c2;have hdel:=zP6 L[j].to met c2;simp only[zH8]at hput hdel;rw[hpe,jB5]at hsucc;have hsucc':i+cnt (j+1)=i+cnt j+(zB7 L to (n-1) L[j].to (met++[L[j].to])).length:=by omega
      have hcall:=ih (n-1) (by omega) L[j].to (met++[L[j].to]) (path++[L[j].id]) false (i+cnt j) (by omega) (by simp; omega) (by omega) (fun q hq hqx=>by
       have h2:cnt j+q<E.length:=by omega
       have:=hX (cnt j+q) h2 (by omega);have hEq:E[cnt j+q]=L[j].id::(zB7 L to (n-1) L[j].to (met++[L[j].to]))[q]:=by
        have h3:E[cnt j+q]?=some (L[j].id::(zB7 L to (n-1) L[j].to (met++[L[j].to]))[q]):=by rw[hspl j,jAo (by rw[←hcd]; omega),←hcd,Nat.add_sub_cancel_left,jAt h,jBh,hpe,jAc (by simpa using hq),jCt,jA2 hq];rfl
        rw[jA2 h2]at h3;exact jAq h3
       rw[hEq]at this
       simpa [jBf] using this)
      have hT1:=hT (i+cnt j+(zB7 L to (n-1) L[j].to (met++[L[j].to])).length) (by omega);simp -implicitDefEqProofs [hTj.1,zAc hTj.1,zAm hTj.1,zAO hTj.1,c3,hput];refine⟨⟨by simp[maxLen]; omega,by omega⟩,?_⟩;have hcs:zO (path++[L[j].id])=zO path++[.lit (.int .i64 L[j].id.a),.lit (.int .i64 L[j].id.b),.lit (.int .i64 L[j].id.c)]:=by rw[yR]; rfl
      have htk:(zO path++[A.lit (.int .i64 L[j].id.a),.lit (.int .i64 L[j].id.b),.lit (.int .i64 L[j].id.c)]).take (path.length*3)=zO path:=by rw[jC (by simp)];exact jAj (by simp)
      refine zWk hTj hT1 hcall [0,1,2,3,4,5,7] (by decide) (by simp[zMA,zD3,zF,hcs]) (by simp[zK9,zF]) ?_;have hwp:IntKind.i64.wrap (path.length:Int)=path.length:=IntWalk.i64_in _ (by omega);simp -implicitDefEqProofs [zK1,zD3,zF,hcs,hT1.1,zAc hT1.1,zAm hT1.1,zAO hT1.1,hdel,hwp,htk];refine⟨by omega,?_⟩;refine zR (j+1) h (by omega) ?_;rw[hsucc'];exact zNP hT1 rfl [0,1,2,3,4,5,6,11,8] 0 (by decide) (by decide) (by simp[zD3,zF]) (by simp[zF,hw])
     ·rw[hnone (.inr (.inr c3)),jBo,jBp]at hsucc;simp -implicitDefEqProofs [c3];refine zR (j+1) h (by omega) ?_;rw[hsucc];exact zNP hTj rfl [0,1,2,3,4,5,6,7,8] 0 (by decide) (by decide) (by simp[zD3,zF]) (by simp[zF,hw])
   ·rw[hnone (.inl c1),jBo,jBp]at hsucc;simp -implicitDefEqProofs [zD3,hTj.1,zAc hTj.1,zAm hTj.1,zAO hTj.1,h,zBv h,zBk,zF,c1];refine zR (j+1) h (by omega) ?_;rw[hsucc];exact zNP hTj rfl [0,1,2,3,4,5,6,7,8] 0 (by decide) (by decide) (by simp[zD3,zF]) (by simp[zF,hw])
  ·have hj':j=L.length:=by omega
   subst hj';rw[hcL]at hTj ⊢;simp -implicitDefEqProofs [hTj.1,zAc hTj.1,zAm hTj.1];exact zJ2 (own':=zK1 b m L to met path) hTe rfl [0,1,2,3,4,5,6,7] 0 (by decide) (by decide) (by simp[zK1,zD3,zF]) (by simp)
def jV (l:List (List Id)):List A:=l.map fun q=>.sl q.length (zO q)
@[simp] theorem qBo (l:List (List Id)):(jV l).length=l.length:=by simp[jV]
@[simp] theorem qBp:jV []=[]:=rfl
theorem zKQ (a b:List (List Id)):jV (a++b)=jV a++jV b:=by simp[jV]
theorem zFb (q:List Id)(l:List (List Id)):jV (q::l)=.sl q.length (zO q)::jV l:=rfl
theorem zEv:∀(l:List (List Id)),qJ (jV l)
 | []=>qJ.nil
 | q::l=>qJ.sl (zBw q) (zEv l)
@[simp] theorem zZE (l:List (List Id)):jF (jV l)=jV l:=(zEv l).1
@[simp] theorem qEF {rf g}(l:List (List Id)):vwL rf g (jV l)=jV l:=(zEv l).2 _ _
@[simp] theorem zPp:∀(l:List (List Id)) (k:Nat),zBm k (jV l)=true
 | [],_=>rfl
 | q::l,k=>by rw[zFb]; simp[zPp l k]
theorem zDv {l:List (List Id)}{i:Nat}(h:i<l.length):(jV l).drop i=.sl l[i].length (zO l[i])::jV (l.drop (i+1)):=by rw[jV,←List.map_drop,jAt h]; rfl
@[simp] theorem qC2 (l:List Md)(k:Nat):zBm k (jG l)=true:=(zFa l).bnd k
@[simp] theorem qC1 (l:List Dfn)(k:Nat):zBm k (qK l)=true:=(zEW l).bnd k
@[simp] theorem qHY (d:Id)(k:Nat):zBm k (zF d)=true:=by simp[zF]
def qA6:K:=G [kO 3 0,kO 4 1,kO 5 2,⟨none,.mov (some 6) (.const .nilFunc)⟩] (G [⟨none,.clo (some 7) 97 [] [(kt 3),(kt 4),(kt 5)]⟩,M 6 7] kr)
theorem qIn:zQ prog Tryz.f53.ntmps (Tryz.f53.body.getD .skip)=some qA6.erase:=by kernel_rfl
@[simp] theorem qLV:zB prog 53=true:=by kernel_rfl
theorem zUo (p:Prg)(fro to:Id):Ret prog 53 [.agg (zK p),.agg (zF fro),.agg (zF to)] [] (.clo 97 [] [.rptr (zK p),.rptr (zF fro),.rptr (zF to)]) []:=by refine zI Tryz.func53 rfl qIn (rs:=[.slot 6]) (by kernel_rfl) ?_;unfold qA6;simp -implicitDefEqProofs [zK,zF];exact zA 1 (by simp)
def qA5:K:=G [kO 4 0] (G [J 9 1 2,kC 10 98 [(kt 9)],kZ 5 [kl],S 5 10 1] (G [⟨none,.mop (some 11) (.mk 3) []⟩,J 12 2 3,⟨none,.mop none (.set 3) [(kt 11),(kt 12),(.const (.bool true))]⟩,M 13 11,kZ 6 [(.map none)],S 6 13 1] (G [kZ 7 [kl]] (G [kZ 8 [.nilFunc]] (G [⟨none,.clo (some 14) 99 [] [(kt 3),(kt 4),(kt 7),(kt 5),(kt 6),(kt 8)]⟩,S 8 14 1] (K.wk (K.ops [L 15 8 1,J 16 2 3,⟨none,.call (some 17) (kt 15) [(kt 16)]⟩])))))))
theorem qIm:zQ prog Tryz.f97.ntmps (Tryz.f97.body.getD .skip)=some qA5.erase:=by kernel_rfl
@[simp] theorem zYH:zB prog 97=true:=by kernel_rfl
@[simp] theorem qMm:zB prog 99=true:=zYI
def zAy (p:Prg)(fro to:Id):List (List Id):=zB7 (zBh p) to (zBh p).length fro [fro]
theorem zRB {p:Prg}{hs:List Hd}(hf:Fit p hs):(zBh p).length≤100:=by
 have h1:(zBh p).length=(zDj p).length:=by rw[←zG2 hf]; exact(zCT _).length_eq
 have h2:=jDj yP p.defs;have h3:=hf.len8;unfold zDj at h1;omega
theorem zSr {p:Prg}{hs:List Hd}(hf:Fit p hs)(fro to:Id):zSR prog 97 [] [.rptr (zK p),.rptr (zF fro),.rptr (zF to)] ((zAy p fro to).map fun q=>[.sl q.length (zO q)]):=by
 refine zGj fun b m T hT hY=>?_
 have h0:=hT 0 (jAy _);have hn:=hT _ (jA _);have hP:=eP p;have hL:=zRB hf;have hm1:putI [fro.a,fro.b,fro.c] (.lit (.bool true)) []=mrk [fro]:=rfl;have hvis:=zVm (L:=zBh p) (by omega) to b m T _ hT hY (zBh p).length fro [fro] [] true 0 (zXa _) (by simp; omega) (by simp[zAy]) (fun q hq hqx=>by simp[zAy]);refine zI Tryz.func97 rfl qIm (rs:=[]) (by kernel_rfl) ?_;unfold qA5;simp -implicitDefEqProofs [h0.1,zAm h0.1,hP];refine qA (zW6 hf) (by simp[hP]) (by simp) ?_;simp -implicitDefEqProofs [h0.1,zAc h0.1,zAm h0.1,zAO h0.1,zIC h0.1,zF,hm1,jBf];have hw:=zA8 (n0:=m) (env:=qN [(2,.rptr (zF fro)),(8,.ptr (m+5) 0)]) (l:=m+4) (o:=0) (σ:=T 0++[AObj.box [yv b],.box [.sl (zBh p).length (yN (zBh p))],.mp true 3 (mrk [fro]),.box [.map (m+2)],.box [.nil],
  .box [.clo 99 [] [.rptr (zF to),.ptr m 0,.ptr (m+4) 0,.ptr (m+1) 0,.ptr (m+3) 0,.ptr (m+5) 0]]]) (by rw[zAc h0.1]; rfl) rfl 31 3
 rw[zAO h0.1,jB2,jA7,h0.1]at hw;refine⟨_,_,(zNP (c:=0) h0 rfl [0,1,2,3,4,5] 0 (by simp) (by decide) (by simp[zF]) (by simp[zF])).trans hw,?_⟩;simp -implicitDefEqProofs [h0.1,zAc h0.1,zAm h0.1];rw[jAr]at hvis;have hn':Cl m (T (zB7 (zBh p) to (zBh p).length fro [fro]).length):=by simpa [zAy] using hn
 refine zWk h0 hn' hvis [0,1,2,3,4,5,6] (by decide) (by simp[zMA,zD3,zF]) (by simp[zK9,zF]) ?_;simp -implicitDefEqProofs;exact zOJ hn' (by simp)
def qHd:K:=G [kO 3 0,kO 4 1,kO 5 2,kZ 6 [kl],kZ 7 [ki]] (Z (G [J 10 3 2,J 11 4 3,kC 12 52 [(kt 10),(kt 11)],kR 13 12,M 14 13,T 14 false (J 15 3 2),T 14 false (J 16 5 3),T 14 false (kC 17 52 [(kt 15),(kt 16)]),T 14 false (kR 18 17),kPt 19 14 18] (Y 19 (G [⟨none,.st none (kt 6) (.const kl) 1⟩,⟨none,.st none (kt 7) (kc 6) 1⟩] kr) ks)) (G [kZ 8 [kl]] (Z (G [J 20 3 2,J 21 4 3,J 22 5 3,kC 23 53 [(kt 20),(kt 21),(kt 22)]] (K.block 0 (K.rng (kt 23) [24] (K.ops [M 9 24]) (K.block 1 (Z (G [L 25 8 1,kN 26 25,kQi 27 26 64 false] (Y 27 (G [⟨none,.st none (kt 6) (.const kl) 1⟩,⟨none,.st none (kt 7) (kc 4) 1⟩] kr) ks)) (K.ops [L 28 8 1,M 29 9,kd 30 28 1 1 [kl] [(0,1,(kt 29))],kP 31 28 1 24 28 30,S 8 31 1])))))) (G [L 32 8 1,S 6 32 1,⟨none,.st none (kt 7) (kc 0) 1⟩] kr))))
theorem qOp:zQ prog Tryz.f20.ntmps (Tryz.f20.body.getD .skip)=some qHd.erase:=by kernel_rfl
@[simp] theorem qOR:zB prog 20=true:=by kernel_rfl
def zDR (p:Prg)(fro to:Id):A:=if zBn p fro=true∧zBn p to=true then .tup [.sl (zAy p fro to).length (jV (zAy p fro to)),int 0] else .tup [.sl 0 [],int 6]
theorem zKA {p:Prg}{hs:List Hd}(hf:Fit p hs)(fro to:Id)(h64:(zAy p fro to).length≤64):Ret prog 20 [.agg (zK p),.agg (zF fro),.agg (zF to)] [] (zDR p fro to) []:=by
 have hP:=eP p;refine zI Tryz.func20 rfl qOp (rs:=[.cell 6 1 false,.cell 7 1 false]) (by kernel_rfl) ?_;unfold qHd;simp -implicitDefEqProofs [hP,zF];refine qA (zNQ p fro) (by simp[hP,zF]) (by simp) ?_;by_cases h1:zBn p fro=true
 ·simp -implicitDefEqProofs [h1];refine qA (zNQ p to) (by simp[hP,zF]) (by simp) ?_;by_cases h2:zBn p to=true
  ·simp -implicitDefEqProofs [h2];refine qA (zUo p fro to) (by simp[hP,zF]) (by simp[hP,zF]) ?_;simp -implicitDefEqProofs;refine⟨[(6,.ptr 3 0),(7,.ptr 4 0),(8,.ptr 5 0),(23,.clo 97 [] [.rptr (zK p),.rptr (zF fro),.rptr (zF to)])],7,(zAy p fro to).map (fun q=>[.sl q.length (zO q)]),
    fun j=>[.box (zK p),.box (zF fro),.box (zF to),.box [.sl 0 []],.box [int 0],.box [.row 6 j],.row false 28 1 j (jV ((zAy p fro to).take j))],97,[],[.rptr (zK p),.rptr (zF fro),.rptr (zF to)],by simp[hP,zF],zYH,zSr hf fro to,?_,by omega,?_,by simp[hP,zF],by simp,?_,?_⟩
   ·exact(zA8 (l:=5) (o:=0) rfl rfl 28 1).trans (zT [0,1,2,3,4,5,6] 0 (by decide) (by decide) (by simp[hP,zF]) (by simp[hP,zF]))
   ·intro i hi;simp[hP,zF]
   ·intro i hi b' M r r';simp only[jB5]at hi;have htk:(zAy p fro to).take (i+1)=(zAy p fro to).take i++[(zAy p fro to)[i]]:=jA9 hi;have hne:¬((i:Int)=64):=by omega
    simp -implicitDefEqProofs [hne];exact⟨⟨by simp[maxLen]; omega,by omega⟩,Wk.here (by rw[htk,zKQ]; rfl)⟩
   ·have htk:(zAy p fro to).take (zAy p fro to).length=zAy p fro to:=jB1;simp -implicitDefEqProofs [htk];exact zA 1 (by simp[zDR,h1,h2])
  ·have h2':zBn p to=false:=by simpa using h2
   simp -implicitDefEqProofs [h2'];exact zA 0 (by simp[zDR,h2'])
 ·have h1':zBn p fro=false:=by simpa using h1
  simp -implicitDefEqProofs [h1'];exact zA 0 (by simp[zDR,h1'])
def zSS:K:=G [kO 2 0,kO 3 1,kMb 4 false] (Z (G [D 5 2 0,L 6 5 1,D 7 3 0,L 8 7 1,kQ 9 6 8 true] (Y 9 (G [D 10 2 0,L 11 10 1,D 12 3 0,L 13 12 1,kB 14 11 13 .lss,M 4 14] kr) ks)) (Z (G [D 15 2 1,L 16 15 1,D 17 3 1,L 18 17 1,kQ 19 16 18 true] (Y 19 (G [D 20 2 1,L 21 20 1,D 22 3 1,L 23 22 1,kB 24 21 23 .lss,M 4 24] kr) ks)) (G [D 25 2 2,L 26 25 1,D 27 3 2,L 28 27 1,kB 29 26 28 .lss,M 4 29] kr)))
theorem zYE:zQ prog Tryz.f124.ntmps (Tryz.f124.body.getD .skip)=some zSS.erase:=by kernel_rfl
@[simp] theorem qFj:zB prog 124=true:=by kernel_rfl
@[simp] theorem qIP:zB prog 33=true:=by kernel_rfl
def zST:K:=G [kMb 4 false] (Z (G [M 6 0,kN 7 6,M 8 1,kN 9 8,kQ 10 7 9 true] (Y 10 (G [kMb 4 false] kr) ks)) (Z (G [kMi 5 0] (K.block 0 (K.loop (Z (G [M 11 5,M 12 0,kN 13 12,kB 14 11 13 .lss] (Y 14 ks (K.exit 0))) (Z (K.block 1 (Z (K.dops [(0,0,M 17 0),(1,0,M 18 5),(2,0,kX 19 17 18 3),(3,0,J 20 19 3),(4,0,M 21 1),(5,0,M 22 5),(6,0,kX 23 21 22 3),(7,0,J 24 23 3),(8,0,⟨none,.eqs (some 25) true [.i,.i,.i] (kt 20) (kt 24)⟩)]) (Y 25 (G [kMb 4 false] kr) ks))) (K.ops [M 15 5,kBi 16 15 1 .add,M 5 16])))))) (G [kMb 4 true] kr)))
theorem zYF:zQ prog Tryz.f31.ntmps (Tryz.f31.body.getD .skip)=some zST.erase:=by kernel_rfl
@[simp] theorem qFk:zB prog 31=true:=by kernel_rfl
def zVI:K:=G [kO 3 1,kMn 4] (G [kMn 5] (G [kMb 6 false] (Z (G [kMi 7 0] (K.block 0 (K.loop (Z (G [M 8 7,M 9 0,kN 10 9,kB 11 8 10 .lss] (Y 11 ks (K.exit 0))) (Z (K.block 1 (Z (Z (K.dops [(0,0,M 14 6),(1,0,kR 15 14),(2,0,M 16 15),(3,0,T 16 true (M 17 0)),(4,0,T 16 true (M 18 7)),(5,0,T 16 true (kX 19 17 18 3)),(6,0,T 16 true (J 20 19 3)),(7,0,T 16 true (J 21 3 3)),(8,0,T 16 true (kC 22 124 [(kt 20),(kt 21)])),(9,0,T 16 true (kR 23 22)),(10,0,kPf 24 16 23)]) (Y 24 (G [M 25 5,J 26 3 3,kd 27 31 3 1 [ki,ki,ki] [(0,3,(kt 26))],kP 28 31 3 24 25 27,M 5 28] (K.ops [kMb 6 true])) ks)) (Z (K.dops [(0,0,M 29 0),(1,0,M 30 7),(2,0,kX 31 29 30 3),(3,0,J 32 31 3),(4,0,J 33 3 3),(5,0,⟨none,.eqs (some 34) true [.i,.i,.i] (kt 32) (kt 33)⟩)]) (Y 34 (K.ops [M 35 5,M 36 0,M 37 7,kX 38 36 37 3,J 39 38 3,kd 40 31 3 1 [ki,ki,ki] [(0,3,(kt 39))],kP 41 31 3 24 35 40,M 5 41]) ks)))) (K.ops [M 12 7,kBi 13 12 1 .add,M 7 13])))))) (Z (G [M 42 6,kR 43 42] (Y 43 (K.ops [M 44 5,J 45 3 3,kd 46 31 3 1 [ki,ki,ki] [(0,3,(kt 45))],kP 47 31 3 24 44 46,M 5 47]) ks)) (G [M 48 5,M 4 48] kr)))))
theorem qC9:zQ prog Tryz.f82.ntmps (Tryz.f82.body.getD .skip)=some zVI.erase:=by kernel_rfl
@[simp] theorem qIQ:zB prog 82=true:=by kernel_rfl
theorem zUW (x y:Id):Ret prog 124 [.agg (zF x),.agg (zF y)] [] (bl (zA7 x y)) []:=by
 refine zI Tryz.func124 rfl zYE (rs:=[.slot 4]) (by kernel_rfl) ?_;unfold zSS;by_cases h1:x.a=y.a
 ·by_cases h2:x.b=y.b
  ·simp -implicitDefEqProofs [zF,h1,h2];exact zA 0 (by simp[zA7,h1,h2])
  ·simp -implicitDefEqProofs [zF,h1,h2];exact zA 0 (by simp[zA7,h1,h2])
 ·simp -implicitDefEqProofs [zF,h1];exact zA 0 (by simp[zA7,h1])
theorem zVr (a b:List Id):Ret prog 31 [.sl a.length (zO a),.sl b.length (zO b)] [] (bl (decide (a=b))) []:=by
 refine zI Tryz.func31 rfl zYF (rs:=[.slot 4]) (by kernel_rfl) ?_;unfold zST;by_cases hab:a.length=b.length
 ·have hab':(a.length:Int)=b.length:=by omega
  simp -implicitDefEqProofs [hab];intro hlb;refine jQ (S:=Nat) (fun i=>[(0,.sl a.length (zO a)),(1,.sl b.length (zO b)),(5,int i)]) (fun s=>[]) (fun i=>i≤a.length∧a.take i=b.take i) (fun i=>a.length-i) 0 (by simp)
   (zT [] 0 (by simp) (by simp) (by simp) (by simp[hab])) ?_
  rintro i ⟨hi,hn⟩;by_cases h:i<a.length
  ·have hb:i<b.length:=by omega
   simp -implicitDefEqProofs [h,hb,jZ h,jZ hb];intro hl;refine jE (fun h'=>?_) (fun h'=>?_)<;>simp at h'<;>simp -implicitDefEqProofs
   ·have hx:a[i]≠b[i]:=fun e=>by rw[e]at h'; simp at h'
    have hne:a≠b:=fun e=>hx (by subst e; rfl)
    exact zA 0 (by simp[hne])
   ·have hx:a[i]=b[i]:=h';refine zR (i+1) ⟨h,?_⟩ (by omega) (zT [] 0 (by simp) (by simp) (by simp) (by simp[qD h hl]));rw[jA9 h,jA9 hb,hn,hx]
  ·have:i=a.length:=by omega
   subst this;simp -implicitDefEqProofs;have:a=b:=by rw[jB1,hab,jB1]at hn; exact hn
   exact fun _=>zA 0 (by simp[this])
 ·have hne:a≠b:=fun e=>hab (by rw[e])
  have hab':¬(a.length:Int)=b.length:=by omega
  simp -implicitDefEqProofs [hab'];exact fun _ _=>zA 0 (by simp[hne])
def zCy (x:Id)(s:List Id×Bool)(y:Id):List Id×Bool:=((s.1++(if s.2=false∧zA7 y x=false then [x] else []))++(if y=x then [] else [y]),s.2||!zA7 y x)
def zQi (x:Id)(s:List Id×Bool):List Id:=if s.2 then s.1 else s.1++[x]
theorem zQj (x:Id):∀(l:List Id) (s:List Id×Bool),(l.foldl (zCy x) s).1.length≤s.1.length+2*l.length
 | [],s=>by simp
 | y::l,s=>by
  have:=zQj x l (zCy x s y);have h2:(zCy x s y).1.length≤s.1.length+2:=by unfold zCy;simp only[jA7];split<;>split<;>simp
  simp only[jBe,jAk];omega
theorem zJo (x:Id):∀(l:List Id) (o:List Id),x∉l→l.foldl (zCy x) (o,true)=(o++l,true)
 | [],o,_=>by simp
 | y::l,o,h=>by
  have hy:y≠x:=fun e=>h (by simp[e])
  have:=zJo x l (o++[y]) (fun e=>h (by simp[e]));simp only[jBe,zCy,Bool.true_eq_false,false_and,if_false,if_neg hy,jC5,Bool.true_or,this,jB2,jCv]
theorem zTz (x:Id):∀(l:List Id) (o:List Id),SS l→zQi x (l.foldl (zCy x) (o,false))=o++zDk l x
 | [],o,_=>by simp[zQi,zDk]
 | y::l,o,h=>by
  obtain⟨h1,h2⟩:=jBr.1 h;by_cases hl:zA7 y x=true
  ·have hy:y≠x:=fun e=>by subst e; simp[zA7]at hl
   have:=zTz x l (o++[y]) h2;simp only[jBe,zCy,hl,Bool.not_true,Bool.or_false,if_neg hy,zDk,if_true];simp only[Bool.true_eq_false,and_false,if_false,jC5];rw[this]; simp
  ·have hl':zA7 y x=false:=by simpa using hl
   have hn:x∉l:=fun hx=>by have:=h1 x hx;rw[hl']at this; cases this
   simp only[jBe,zCy,hl',Bool.not_false,Bool.or_true,and_self,if_true,zDk,jAg,if_false];by_cases hy:y=x
   ·subst hy;rw[zJo _ _ _ hn];simp[zQi]
   ·rw[if_neg hy,if_neg hy,zJo _ _ _ hn];simp[zQi]
theorem zXr (l:List Id)(x:Id)(hl6:l.length≤1000):Ret prog 82 [.sl l.length (zO l),.agg (zF x)] [] (.sl (zQi x (l.foldl (zCy x) ([],false))).length (zO (zQi x (l.foldl (zCy x) ([],false))))) []:=by
 refine zI Tryz.func82 rfl qC9 (rs:=[.slot 4]) (by kernel_rfl) ?_;unfold zVI;simp -implicitDefEqProofs [zF];refine jQ (S:=Nat) (fun i=>[(0,.sl l.length (zO l)),(3,.ptr 0 0),(5,.row 1 ((l.take i).foldl (zCy x) ([],false)).1.length),(6,bl ((l.take i).foldl (zCy x) ([],false)).2),(7,int i)]) (fun i=>[.box (zF x),.row false 31 3 ((l.take i).foldl (zCy x) ([],false)).1.length (zO ((l.take i).foldl (zCy x) ([],false)).1)]) (fun i=>i≤l.length) (fun i=>l.length-i) 0 (by simp)
  ((zAE (t:=5) (by simp) 31 3).trans (zT [0,1] 0 (by simp) (by simp) (by simp[zF]) (by simp))) ?_
 intro i hi;have hmx:l.length≤maxLen:=by simp[maxLen]; omega
 have hsl:=zQj x (l.take i) ([],false);rw[jAs]at hsl;by_cases h:i<l.length
 ·have hst:(l.take (i+1)).foldl (zCy x) ([],false)=zCy x ((l.take i).foldl (zCy x) ([],false)) l[i]:=by rw[jA9 h,jC9]; rfl
  generalize (l.take i).foldl (zCy x) ([],false)=s at *
  obtain⟨o,d⟩:=s;simp only[jBo]at hsl;have hne:l≠[]:=fun e=>by rw[e]at h; simp at h
  have less:=zUW l[i] x;cases d
  ·cases hls:zA7 l[i] x
   ·simp -implicitDefEqProofs [h,jZ h,zF,hne];intro _;refine qU less (by simp[zF]) (by simp) ?_;by_cases hx:l[i]=x
    ·simp -implicitDefEqProofs [h,jZ h,zF,hne,hx,zB4];refine⟨⟨by simp[maxLen]; omega,by omega⟩,?_⟩;exact zR (i+1) h (by omega) (zT [0,1] 0 (by simp) (by simp) (by simp[zF,hst,zCy,hx,zB4,yR,zO]) (by simp[hst,zCy,hx,zB4,qD h hmx]))
    ·simp -implicitDefEqProofs [hls,h,jZ h,zF,hne,hx];refine⟨⟨by simp[maxLen]; omega,by omega⟩,?_⟩;refine⟨⟨by simp[maxLen]; omega,by omega⟩,?_⟩;exact zR (i+1) h (by omega) (zT [0,1] 0 (by simp) (by simp) (by simp[zF,hst,zCy,hx,hls,yR,zO]) (by simp[hst,zCy,hx,hls,qD h hmx]))
   ·have hx:¬l[i]=x:=fun e=>by rw[e,zB4]at hls; cases hls
    simp -implicitDefEqProofs [h,jZ h,zF,hne];intro _;refine qU less (by simp[zF]) (by simp) ?_;simp -implicitDefEqProofs [hls,h,jZ h,zF,hne,hx];refine⟨⟨by simp[maxLen]; omega,by omega⟩,?_⟩;exact zR (i+1) h (by omega) (zT [0,1] 0 (by simp) (by simp) (by simp[zF,hst,zCy,hx,hls,yR,zO]) (by simp[hst,zCy,hx,hls,qD h hmx]))
  ·by_cases hx:l[i]=x
   ·simp -implicitDefEqProofs [h,jZ h,zF,hne,hx];intro _;exact zR (i+1) h (by omega) (zT [0,1] 0 (by simp) (by simp) (by simp[zF,hst,zCy,hx,yR,zO]) (by simp[hst,zCy,hx,qD h hmx]))
   ·simp -implicitDefEqProofs [h,jZ h,zF,hne,hx];intro _;refine⟨⟨by simp[maxLen]; omega,by omega⟩,?_⟩;exact zR (i+1) h (by omega) (zT [0,1] 0 (by simp) (by simp) (by simp[zF,hst,zCy,hx,yR,zO]) (by simp[hst,zCy,hx,qD h hmx]))
 ·have hie:i=l.length:=by omega
  subst hie;rw[jB1]at *
  generalize l.foldl (zCy x) ([],false)=s at *
  obtain⟨o,d⟩:=s;cases d
  ·simp -implicitDefEqProofs [zF];intro _;have hsl2:o.length≤2*l.length:=by simpa using hsl
   refine⟨⟨by simp[maxLen]; omega,by omega⟩,?_⟩;exact zA 1 (by simp[zQi,yR,zO])
  ·simp -implicitDefEqProofs [zF];exact fun _=>zA 1 (by simp[zQi])
theorem zXs {l:List Id}(h:SS l)(x:Id)(hl:l.length≤1000):Ret prog 82 [.sl l.length (zO l),.agg (zF x)] [] (.sl (zDk l x).length (zO (zDk l x))) []:=by have:=zXr l x hl;rw[zTz x l [] h]at this;exact this
def zVC:K:=G [kO 1 0,kMn 2] (G [kMn 3] (Z (G [kMi 4 0] (K.block 0 (K.loop (Z (G [M 8 4,D 9 1 1,L 10 9 1,kN 11 10,kB 12 8 11 .lss] (Y 12 ks (K.exit 0))) (Z (K.block 1 (Z (K.wk (K.dops [(0,1,J 16 1 2),(1,1,D 17 1 1),(2,1,L 18 17 1),(3,0,M 19 4),(4,1,kX 20 18 19 31),(5,1,D 21 20 0),(6,1,J 22 21 3),(7,1,kC 23 13 [(kt 16),(kt 22)]),(8,0,M 15 23),(9,0,kE 24 15 0),(10,0,kE 25 15 1),(11,0,kE 26 15 2),(12,302,⟨none,.alr (some 5) 2 kz2⟩),(13,303,⟨none,.alr (some 6) 3 kz2⟩),(14,0,S 5 24 5),(15,0,S 6 25 5),(16,0,M 7 26)])) (G [M 27 7] (Y 27 (K.ops [M 28 3,D 29 1 1,L 30 29 1,M 31 4,kX 32 30 31 31,D 33 32 0,J 34 33 3,kC 35 82 [(kt 28),(kt 34)],M 3 35]) ks)))) (K.ops [M 13 4,kBi 14 13 1 .add,M 4 14])))))) (G [M 36 3,M 2 36] kr)))
def qD5:Nat→Option (List (Nat×Nat)):=fun r=>match r with | 5=>some [(0,1),(1,1),(2,1),(3,0),(4,1),(5,1),(6,1),(7,1),(8,0),(9,0),(10,0),(11,0),(12,302),(13,303),(14,0),(15,0),(16,0)] | _=>none
theorem qC5:qG prog Tryz.f35.ntmps qD5 (Tryz.f35.body.getD .skip)=some zVC.erase:=by kernel_rfl
@[simp] theorem qIL:zB prog 35=true:=by kernel_rfl
def cvI (p:Prg)(i:Nat):List Id:=(((p.defs.take i).filter fun d=>(jT p d.id).isSome).map (·.id)).foldl zDk []
theorem zWx (p:Prg)(i:Nat):SS (cvI p i):=zLp List.Pairwise.nil
theorem zTg (p:Prg)(i:Nat):(cvI p i).length≤i:=by have h1:=zSY (((p.defs.take i).filter fun d=>(jT p d.id).isSome).map (·.id)) [];have h2:=jDg (fun d=>(jT p d.id).isSome) (p.defs.take i);simp only[jB5,jAs,jBo]at h1 h2;unfold cvI;omega
theorem zTf (p:Prg):cvI p p.defs.length=yG p:=by
 refine(zWx p _).unique (zON _) fun x=>?_
 unfold cvI yG;rw[zJh,zIB,jB1];simp
theorem zWy (p:Prg){i:Nat}(h:i<p.defs.length):cvI p (i+1)=if (jT p p.defs[i].id).isSome then zDk (cvI p i) p.defs[i].id else cvI p i:=by
 unfold cvI;rw[jA9 h,List.filter_append,jCi,jC9];by_cases hs:(jT p p.defs[i].id).isSome=true
 ·simp[List.filter,hs]
 ·simp[List.filter,hs]
theorem zWw (p:Prg)(hp:p.defs.length≤100):Ret prog 35 [.agg (zK p)] [] (.sl (yG p).length (zO (yG p))) []:=by
 have hP:=eP p;refine qP Tryz.func35 rfl qC5 (rs:=[.slot 2]) (by kernel_rfl) ?_;unfold zVC;simp -implicitDefEqProofs [hP];refine jQ (S:=Nat) (fun i=>[(1,.ptr 0 0),(3,.sl (cvI p i).length (zO (cvI p i))),(4,int i)]) (fun i=>[.box (zK p)]) (fun i=>i≤p.defs.length) (fun i=>p.defs.length-i) 0 (by simp)
  (zT [0] 0 (by simp) (by simp) (by simp[hP]) (by simp[cvI,zO])) ?_
 intro i hi;by_cases h:i<p.defs.length
 ·have hl:=zTg p i;have hs:=zWy p h;have hd:=zAF h;have hne:p.defs≠[]:=fun e=>by rw[e]at h; simp at h
  have hw:=qD h (show p.defs.length≤maxLen by simp[maxLen]; omega);have hle:=zGl p (by omega) p.defs[i].id;have hins:=zXs (zWx p i) p.defs[i].id (by omega);simp -implicitDefEqProofs [hP,h];intro _;refine⟨_,_,yM 3,?_⟩;simp -implicitDefEqProofs [List.replicate,h,hd,hne,zG];refine yX hle (by simp[hP,zF]) (by simp[zBX,zM]) ?_;cases hv:jT p p.defs[i].id with
  | none =>
   rw[hv]at hs;simp -implicitDefEqProofs [zBX,zM];exact zR (i+1) h (by omega) (zT [0] 0 (by simp) (by simp) (by simp[hP]) (by simp[hs,hw]))
  | some ab =>
   rw[hv]at hs;simp -implicitDefEqProofs [zBX,zM,h,hd,hne,zG];refine qA hins (by simp[zF]) (by simp) ?_;simp -implicitDefEqProofs;exact zR (i+1) h (by omega) (zT [0] 0 (by simp) (by simp) (by simp[hP]) (by simp[hs,hw]))
 ·have hie:i=p.defs.length:=by omega
  subst hie;simp -implicitDefEqProofs [hP];rw[zTf]
  first | exact fun _=>zA 0 (by simp) | exact zA 0 (by simp)
def zRm:K:=(G [D 29 6 13,L 30 29 1,kN 31 30,kMi 32 0] (K.block 0 (K.loop (G [kB 33 32 31 .lss] (Z (Y 33 ks (K.exit 0)) (Z (K.block 1 (G [kX 34 30 32 15,J 35 34 15,kZ 9 kz1,S 9 35 15] (Z (K.dops [(0,0,D 36 6 3),(1,0,L 37 36 1),(2,0,kQi 38 37 8 false),(3,0,M 39 38),(4,0,T 39 true (D 40 9 3)),(5,0,T 39 true (L 41 40 1)),(6,0,T 39 true (kQi 42 41 2 false)),(7,0,kPf 43 39 42),(8,0,M 44 43),(9,0,T 44 true (D 45 9 5)),(10,0,T 44 true (J 46 45 3)),(11,0,T 44 true (D 47 2 8)),(12,0,T 44 true (L 48 47 1)),(13,0,T 44 true (kXi 49 48 11 0)),(14,0,T 44 true (D 50 49 0)),(15,0,T 44 true (J 51 50 3)),(16,0,⟨some (44,true),.eqs (some 52) false [.i,.i,.i] (kt 46) (kt 51)⟩),(17,0,kPf 53 44 52),(18,0,M 10 53)]) (Z (G [M 54 10] (Y 54 (K.ops [L 55 4 1,D 56 6 4,L 57 56 1,⟨none,.mop none (.set 1) [(kt 55),(kt 57),(.const (.bool true))]⟩]) ks)) (K.ops [L 58 5 1,J 59 9 15,M 60 10,⟨none,.call (some 61) (kt 58) [(kt 59),(kt 60)]⟩]))))) (K.ops [kBi 62 32 1 .add,M 32 62])))))))
def qAE:K:=G [kO 6 0] (Z (Z (K.dops [(0,0,D 11 6 3),(1,0,L 12 11 1),(2,0,kQi 13 12 2 false),(3,0,M 14 13),(4,0,T 14 true (D 15 6 5)),(5,0,T 14 true (J 16 15 3)),(6,0,T 14 true (D 17 2 8)),(7,0,T 14 true (L 18 17 1)),(8,0,T 14 true (kXi 19 18 11 0)),(9,0,T 14 true (D 20 19 0)),(10,0,T 14 true (J 21 20 3)),(11,0,⟨some (14,true),.eqs (some 22) false [.i,.i,.i] (kt 16) (kt 21)⟩),(12,0,kPf 23 14 22)]) (Y 23 (K.ops [L 24 3 1,M 25 24,T 25 false (M 26 1),T 25 false (kR 27 26),kPt 28 25 27,S 3 28 1]) ks)) (K.wk zRm))
theorem qIz:zQ prog Tryz.f58.ntmps (Tryz.f58.body.getD .skip)=some qAE.erase:=by kernel_rfl
@[simp] theorem qMc:zB prog 58=true:=by kernel_rfl
def mki (l:List Int):List (List Int×A):=l.map fun x=>([x],.lit (.bool true))
def adI (l:List Int)(x:Int):List Int:=if x∈l then l else l++[x]
theorem zY3 {l:List Int}{x y:Int}:y∈adI l x↔y∈l∨y=x:=by
 unfold adI;split
 ·rename_i h;exact⟨.inl,fun hh=>hh.elim id fun e=>e▸h⟩
 ·simp
theorem zPe {y:Int}:∀(m l:List Int),y∈m.foldl adI l↔y∈l∨y∈m
 | [],l=>by simp
 | x::m,l=>by rw[jBe,zPe m,zY3,jA6]; exact or_assoc
theorem zT8 (x:Int):∀l:List Int,Go.Abs.putI [x] (.lit (.bool true)) (mki l)=mki (adI l x)
 | []=>rfl
 | y::l=>by
  have ih:=zT8 x l;simp only[mki,jAd,Go.Abs.putI]at ih ⊢;by_cases h:y=x
  ·subst h;simp[adI]
  ·have h':¬[y]=[x]:=fun e=>h (by simpa using e)
   have h2:¬x=y:=fun e=>h e.symm
   rw[if_neg h',ih];unfold adI;by_cases hx:x∈l
   ·simp[hx]
   ·simp[hx,h2]
theorem zQw (x:Int):∀l:List Int,zBJ [x] (mki l)=if x∈l then some (.lit (.bool true)) else none
 | []=>rfl
 | y::l=>by
  have ih:=zQw x l;simp only[mki,jAd,zBJ]at ih ⊢;by_cases h:y=x
  ·subst h;simp
  ·have h':¬[y]=[x]:=fun e=>h (by simpa using e)
   have h2:¬x=y:=fun e=>h e.symm
   rw[if_neg h',ih];simp[h2]
theorem zZ7 (x:Int)(l:List Int):zFo (Value.bool false) false (zBJ [x] (mki l))=.lit (.bool (decide (x∈l))):=by rw[zQw];split<;>rename_i h<;>simp[zFo,h,qS,zFy]
@[simp] theorem qQz {rf g}(l:List Int):(mki l).map (fun p=>(p.1,vw rf g p.2))=mki l:=by unfold mki;rw[jCc]; rfl
def fvS (D:List A)(w:Bool)(l:List Int):St:=[.box [bl w],.box [.map 2],.mp false 1 (mki l),.box [.clo 58 [] [.rptr D,.ptr 0 0,.ptr 1 0,.ptr 3 0]]]
def fvA (D:List A)(e:Exp)(f:Bool):List A:=[.agg (zV e),bl f,.rptr D,.ptr 0 0,.ptr 1 0,.ptr 3 0]
def zVA (D:List A)(s:Id)(e:Exp):Prop:=∀(f w:Bool) (l:List Int),Ret prog 58 (fvA D e f) (fvS D w l) (.tup []) (fvS D (w||zE2 s e f) ((zJs s e).foldl adI l))
theorem zSM (s:Id)(e:Exp)(f:Bool):zE2 s e f=((decide (e.k=2)&&decide (e.ref=s)&&!f)||zCv s (decide (e.k=8)) e.kids):=by cases e; rfl
theorem zX6 (s:Id)(e:Exp):zJs s e=zHA s (decide (e.k=8)) e.n e.kids:=by cases e; rfl
theorem zKr (s:Id)(f:Bool):∀(l:List Exp) {i:Nat} (h:i<l.length),zCv s f (l.take (i+1))=(zCv s f (l.take i)||zE2 s l[i] (f&&isS s l[i]))
 | [],i,h=>by simp at h
 | e::l,0,_=>by simp[zCv]
 | e::l,i+1,h=>by simp only[jC2,zCv,jDa];rw[zKr s f l (by simpa using h),Bool.or_assoc]
theorem zN3 (s:Id)(f:Bool)(n:Int):∀(l:List Exp) {i:Nat} (h:i<l.length),zHA s f n (l.take (i+1))=zHA s f n (l.take i)++((if (f&&isS s l[i])=true then [n] else [])++zJs s l[i])
 | [],i,h=>by simp at h
 | e::l,0,_=>by simp[zHA]
 | e::l,i+1,h=>by simp only[jC2,zHA,jDa];rw[zN3 s f n l (by simpa using h)];simp
theorem zO1 (s:Id)(k:Exp):isS s k=(decide (k.k=2)&&decide (k.ref=s)):=rfl
theorem qD0 (D D':List A)(u:Slt)(hD:D.drop 8=.sl 1 (yQ u)::D')(hv:∀rf g,vwL rf g D=D)(hn:jF D=D)(e:Exp)(ih:∀k∈e.kids,zVA D u.id k)(f w:Bool)(l:List Int) :
 wpK prog 4 zRm (fin [] (zGS 4 (.tup []) (fvS D (w||zCv u.id (decide (e.k=8)) e.kids) ((zHA u.id (decide (e.k=8)) e.n e.kids).foldl adI l)))) (qN [(2,.rptr D),(3,.ptr 0 0),(4,.ptr 1 0),(5,.ptr 3 0),(6,.ptr 4 0)]) (fvS D w l++[.box (zV e)]):=by
 obtain⟨b8,hb8⟩:∃b,b=decide (e.k=8):=⟨_,rfl⟩;rw[←hb8];unfold zRm;simp -implicitDefEqProofs [fvS,zV];intro hmx;refine jQ (S:=Nat) (fun i=>[(2,.rptr D),(3,.ptr 0 0),(4,.ptr 1 0),(5,.ptr 3 0),(6,.ptr 4 0),(30,.sl e.kids.length (jR e.kids)),(31,int e.kids.length),(32,int i)])
  (fun i=>fvS D (w||zCv u.id b8 (e.kids.take i)) ((zHA u.id b8 e.n (e.kids.take i)).foldl adI l)++[.box (zV e)]) (fun i=>i≤e.kids.length) (fun i=>e.kids.length-i) 0 (by simp)
  (zT [0,1,2,3,4] 0 (by decide) (by decide) (by simp[fvS,hv,zV,zCv,zHA]) (by simp[hv])) ?_
 intro i hi;by_cases h:i<e.kids.length
 ·have hw:=qD h hmx;have hwt:=zKr u.id b8 e.kids h;have hmt:=zN3 u.id b8 e.n e.kids h;have hne:¬e.kids=[]:=fun e'=>by rw[e']at h; simp at h
  have hk:=ih e.kids[i] (jA3 h);generalize hww:(w||zCv u.id b8 (e.kids.take i))=wi at *
  generalize hll:(zHA u.id b8 e.n (e.kids.take i)).foldl adI l=li at *
  have fold1:∀own:Bool,(b8&&isS u.id e.kids[i])=own→(zHA u.id b8 e.n (e.kids.take (i+1))).foldl adI l=(zJs u.id e.kids[i]).foldl adI (if own then adI li e.n else li):=fun own ho=>by rw[hmt,jC9,jC9,hll,ho];cases own<;>rfl
  have whole1:∀own:Bool,(b8&&isS u.id e.kids[i])=own→(w||zCv u.id b8 (e.kids.take (i+1)))=(wi||zE2 u.id e.kids[i] own):=fun own ho=>by rw[hwt,ho,←Bool.or_assoc,hww]
  have hput:=zT8 e.n li;by_cases c8:e.k=8
  ·by_cases ck:e.kids[i].k=2
   ·by_cases cr:e.kids[i].ref=u.id
    ·have ho:(b8&&isS u.id e.kids[i])=true:=by simp[hb8,zO1,c8,ck,cr]
     have e1:=fold1 _ ho;have e2:=whole1 _ ho;have hc:=hk true wi (adI li e.n);simp -implicitDefEqProofs [fvS,zV,h,hne,zBr h,c8,ck,cr,hD,yQ,zBB,hput];refine jO hc [0,1,2,3] (by decide) (by simp[fvS,hv]) (by simp[fvA,hv,zV,ck,cr]) ?_;simp -implicitDefEqProofs [fvS];exact zR (i+1) h (by omega) (zT [0,1,2,3,4] 0 (by decide) (by decide) (by simp[fvS,hv,zV,e1,e2,c8]) (by simp[hv,hw]))
    ·have ho:(b8&&isS u.id e.kids[i])=false:=by simp[zO1,cr]
     have e1:=fold1 _ ho;have e2:=whole1 _ ho;have hc:=hk false wi li;simp -implicitDefEqProofs [fvS,zV,h,hne,zBr h,c8,ck,cr,hD,yQ,zBB];refine jO hc [0,1,2,3] (by decide) (by simp[fvS,hv]) (by simp[fvA,hv,zV,ck]) ?_;simp -implicitDefEqProofs [fvS];exact zR (i+1) h (by omega) (zT [0,1,2,3,4] 0 (by decide) (by decide) (by simp[fvS,hv,zV,e1,e2,c8]) (by simp[hv,hw]))
   ·have ho:(b8&&isS u.id e.kids[i])=false:=by simp[zO1,ck]
    have e1:=fold1 _ ho;have e2:=whole1 _ ho;have hc:=hk false wi li;simp -implicitDefEqProofs [fvS,zV,h,hne,zBr h,c8,ck];refine jO hc [0,1,2,3] (by decide) (by simp[fvS,hv]) (by simp[fvA,hv,zV,c8]) ?_;simp -implicitDefEqProofs [fvS];exact zR (i+1) h (by omega) (zT [0,1,2,3,4] 0 (by decide) (by decide) (by simp[fvS,hv,zV,e1,e2,c8]) (by simp[hv,hw]))
  ·have ho:(b8&&isS u.id e.kids[i])=false:=by simp[hb8,c8]
   have e1:=fold1 _ ho;have e2:=whole1 _ ho;have hc:=hk false wi li;simp -implicitDefEqProofs [fvS,zV,h,hne,zBr h,c8];refine jO hc [0,1,2,3] (by decide) (by simp[fvS,hv]) (by simp[fvA,hv,zV,c8]) ?_;simp -implicitDefEqProofs [fvS];exact zR (i+1) h (by omega) (zT [0,1,2,3,4] 0 (by decide) (by decide) (by simp[fvS,hv,zV,e1,e2,c8]) (by simp[hv,hw]))
 ·have hie:i=e.kids.length:=by omega
  subst hie;rw[jB1];simp -implicitDefEqProofs [fvS,zV];exact zL [0,1,2,3] 0 (by decide) (by decide) (by simp[hv]) (by simp)
theorem zU1 (D D':List A)(u:Slt)(hD:D.drop 8=.sl 1 (yQ u)::D')(hv:∀rf g,vwL rf g D=D)(hn:jF D=D)(e:Exp)(ih:∀k∈e.kids,zVA D u.id k):zVA D u.id e:=by
 intro f w l;rw[zSM,zX6];refine zI Tryz.func58 rfl qIz (rs:=[]) (by kernel_rfl) ?_;unfold qAE;rw[←Bool.or_assoc,show (fvS D w l).length=4 from rfl];have hL:=qD0 D D' u hD hv hn e ih f;have hl8:1≤D.length-8:=by rw[←jC7,hD]; simp
 by_cases c1:e.k=2
 ·by_cases c2:e.ref=u.id
  ·have key:(decide (e.k=2)&&decide (e.ref=u.id)&&!f) = !f:=by simp[c1,c2]
   rw[key];have hL':=hL (w||!f) l;generalize zGS 4 (.tup []) (fvS D (w||!f||zCv u.id (decide (e.k=8)) e.kids) ((zHA u.id (decide (e.k=8)) e.n e.kids).foldl adI l))=Q at hL' ⊢;cases w
   ·cases f
    ·simp -implicitDefEqProofs [fvA,fvS,zV,c1,c2,hD,yQ,zBB];refine⟨_,_,zT [0,1,2,3,4] 0 (by decide) (by decide) ?_ ?_,hL'⟩
     ·simp[fvS,hv,zV,c1,c2]
     ·simp[hv]
    ·simp -implicitDefEqProofs [fvA,fvS,zV,c1,c2,hD,yQ,zBB];refine⟨_,_,zT [0,1,2,3,4] 0 (by decide) (by decide) ?_ ?_,hL'⟩
     ·simp[fvS,hv,zV,c1,c2]
     ·simp[hv]
   ·simp -implicitDefEqProofs [fvA,fvS,zV,c1,c2,hD,yQ,zBB];refine⟨_,_,zT [0,1,2,3,4] 0 (by decide) (by decide) ?_ ?_,hL'⟩
    ·simp[fvS,hv,zV,c1,c2]
    ·simp[hv]
  ·have key:(decide (e.k=2)&&decide (e.ref=u.id)&&!f)=false:=by simp[c2]
   rw[key,Bool.or_false];have hL':=hL w l;generalize zGS 4 (.tup []) (fvS D (w||zCv u.id (decide (e.k=8)) e.kids) ((zHA u.id (decide (e.k=8)) e.n e.kids).foldl adI l))=Q at hL' ⊢;simp -implicitDefEqProofs [fvA,fvS,zV,c1,c2,hD,yQ,zBB];refine⟨_,_,zT [0,1,2,3,4] 0 (by decide) (by decide) ?_ ?_,hL'⟩
   ·simp[fvS,hv,zV,c1]
   ·simp[hv]
 ·have key:(decide (e.k=2)&&decide (e.ref=u.id)&&!f)=false:=by simp[c1]
  rw[key,Bool.or_false];have hL':=hL w l;generalize zGS 4 (.tup []) (fvS D (w||zCv u.id (decide (e.k=8)) e.kids) ((zHA u.id (decide (e.k=8)) e.n e.kids).foldl adI l))=Q at hL' ⊢;simp -implicitDefEqProofs [fvA,fvS,zV,c1,hD];refine⟨_,_,zT [0,1,2,3,4] 0 (by decide) (by decide) ?_ ?_,hL'⟩
  ·simp[fvS,hv,zV]
  ·simp[hv]
end Go.Proofs.YtdnelmeboihpkaaGreatDoor
