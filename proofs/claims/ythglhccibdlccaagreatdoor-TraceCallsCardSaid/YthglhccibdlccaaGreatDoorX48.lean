/-
  The reference: what the types of a definition's slots reach.
  The reference's evaluator: nodes.
  The reference's Call.
  The reference tracer's Call returns what the program's does.
-/
import Derived.Test.YthglhccibdlccaaGreatDoorX46
import Derived.Test.YthglhccibdlccaaGreatDoorX47
import Derived.Test.YthglhccibdlccaaGreatDoorX45
set_option linter.unusedVariables false
set_option linter.unusedSimpArgs false
namespace Go.Proofs.YthglhccibdlccaaGreatDoor
open Go.Abs
def zD0 (d:Dfn)(L:List Id):List Id:=if d.id∈L then namS d.slots L else L
theorem RS.namS {p:Prg}{hs:List Hd}(hf:Fit p hs){ss:List Slt}(h:∀s∈ss,TyOk hs 4 s.typ){L:List Id}(hL:RS p L):RS p (namS ss L) :=
 RS.fold (fun(s:Slt) L=>zB5 s.typ L) ss L (fun s hs' L hL=>hL.nam hf (h s hs')) hL
theorem RS.turn {p:Prg}{hs:List Hd}(hf:Fit p hs){d:Dfn}(hd:d∈p.defs){L:List Id}(hL:RS p L):RS p (zD0 d L):=by
 unfold zD0;split
 ·exact hL.namS hf (hf.slots d hd).2.2.2.2
 ·exact hL
theorem RS.rnd {p:Prg}{hs:List Hd}(hf:Fit p hs){ds:List Dfn}(hd:∀d∈ds,d∈p.defs){L:List Id}(hL:RS p L):RS p (ds.foldl (fun L d=>zD0 d L) L) :=
 RS.fold zD0 ds L (fun d hd' L hL=>hL.turn hf (hd d hd')) hL
theorem RS.rnds {p:Prg}{hs:List Hd}(hf:Fit p hs){L:List Id}(hL:RS p L):∀n,RS p (zCr p.defs n L)
 | 0=>hL
 | n+1=>(RS.rnds hf hL n).rnd hf (fun _ h=>h)
def qIh:K:=G [kO 2 0,kO 3 1,kMn 4] (G [kMn 5] (Z (G [kMi 6 0] (K.block 0 (K.loop (Z (G [M 16 6,D 17 3 8,L 18 17 1,kN 19 18,kB 20 16 19 .lss] (Y 20 ks (K.exit 0))) (Z (K.block 1 (K.ops [D 23 3 8,L 24 23 1,M 25 6,kX 26 24 25 11,D 27 26 4,J 28 27 5,M 29 5,kC 30 100 [(kt 28),(kt 29)],M 5 30])) (K.ops [M 21 6,kBi 22 21 1 .add,M 6 22])))))) (Z (G [kMi 7 0] (K.block 2 (K.loop (Z (G [M 31 7,D 32 2 1,L 33 32 1,kN 34 33,kB 35 31 34 .lss] (Y 35 ks (K.exit 2))) (Z (K.block 3 (G [kMi 8 0] (K.block 4 (K.loop (Z (G [M 38 8,D 39 2 1,L 40 39 1,kN 41 40,kB 42 38 41 .lss] (Y 42 ks (K.exit 4))) (Z (K.block 5 (Z (K.dops [(0,1,J 46 2 2),(1,1,D 47 2 1),(2,1,L 48 47 1),(3,0,M 49 8),(4,1,kX 50 48 49 31),(5,1,D 51 50 0),(6,1,J 52 51 3),(7,1,kC 53 26 [(kt 46),(kt 52)]),(8,0,M 45 53),(9,0,kE 54 45 0),(10,0,kE 55 45 1),(11,0,kZ 9 kz0),(12,0,S 9 54 31),(13,0,M 10 55)]) (G [M 56 5,D 57 9 0,J 58 57 3,kC 59 23 [(kt 56),(kt 58)]] (Y 59 (G [kMi 11 0] (K.block 6 (K.loop (Z (G [M 60 11,D 61 9 8,L 62 61 1,kN 63 62,kB 64 60 63 .lss] (Y 64 ks (K.exit 6))) (Z (K.block 7 (K.ops [D 67 9 8,L 68 67 1,M 69 11,kX 70 68 69 11,D 71 70 4,J 72 71 5,M 73 5,kC 74 100 [(kt 72),(kt 73)],M 5 74])) (K.ops [M 65 11,kBi 66 65 1 .add,M 11 66])))))) ks)))) (K.ops [M 43 8,kBi 44 43 1 .add,M 8 44]))))))) (K.ops [M 36 7,kBi 37 36 1 .add,M 7 37])))))) (G [kMn 12] (Z (G [kMi 13 0] (K.block 8 (K.loop (Z (G [M 75 13,M 76 5,kN 77 76,kB 78 75 77 .lss] (Y 78 ks (K.exit 8))) (Z (K.block 9 (Z (K.dops [(0,1,J 82 2 2),(1,0,M 83 5),(2,0,
 M 84 13),(3,1,kX 85 83 84 3),(4,1,J 86 85 3),(5,1,kC 87 26 [(kt 82),(kt 86)]),(6,0,M 81 87),(7,0,kE 88 81 0),(8,0,kE 89 81 1),(9,0,kZ 14 kz0),(10,0,S 14 88 31),(11,0,M 15 89)]) (G [M 90 15] (Y 90 (K.ops [M 91 12,M 92 5,M 93 13,kX 94 92 93 3,J 95 94 3,kd 96 29 3 1 [ki,ki,ki] [(0,3,(kt 95))],kP 97 29 3 24 91 96,M 12 97]) ks)))) (K.ops [M 79 13,kBi 80 79 1 .add,M 13 80])))))) (G [M 98 12,M 4 98] kr))))))
theorem qOA:zN Tryz.prog Tryz.f50.ntmps (Tryz.f50.body.getD .skip)=some qIh.erase:=by kernel_rfl
@[simp] theorem qMW:zC Tryz.prog 50=true:=by kernel_rfl
set_option maxHeartbeats 2000000 in
set_option maxRecDepth 100000 in
theorem zPD {p:Prg}{hs:List Hd}(hf:Fit p hs)(d:Dfn)(hd:d∈p.defs) :
 Ret Tryz.prog 50 [.agg (zQ p),.agg (zP d)] [] (.sl (zBj (zAE p d.slots [])).length (zX (zBj (zAE p d.slots [])))) []:=by
 obtain⟨_,s6,_,_,sty⟩:=hf.slots d hd;have hL8:=hf.len8;rw[←zSz hf sty];have hR0:RS p []:=⟨by simp[SS],by simp⟩;have hRs:∀i,RS p (namS (d.slots.take i) []):=fun i=>hR0.namS hf fun s hs'=>sty s (List.mem_of_mem_take hs')
 have hsall:d.slots.take d.slots.length=d.slots:=List.take_length;have hdall:p.defs.take p.defs.length=p.defs:=List.take_length;have n00:namS [] []=[]:=rfl;refine zK Tryz.func50 rfl qOA (rs:=[.slot 4]) (by kernel_rfl) ?_;unfold qIh;simp[zQ,zP];refine qP (S:=Nat) (fun i=>[(2,.ptr 0 0),(3,.ptr 1 0),(5,.sl (namS (d.slots.take i) []).length (zX (namS (d.slots.take i) []))),(6,int i)]) (fun i=>[.box (zQ p),.box (zP d)]) (fun i=>i≤d.slots.length) (fun i=>d.slots.length-i) 0 (by simp)
  (zV [0,1] 0 (by decide) (by simp) (by simp[zQ,zP]) (by simp[n00])) ?_
 intro i hi;have hw:IntKind.i64.wrap ((i:Int)+1)=(i:Int)+1:=IntWalk.i64_in _ (by omega);by_cases hil:i<d.slots.length
 ·have hn:=zNE hf (sty _ (List.getElem_mem hil)) _ (hRs i);have hst:namS (d.slots.take (i+1)) []=zB5 d.slots[i].typ (namS (d.slots.take i) []):=zCg (fun L (s:Slt)=>zB5 s.typ L) [] hil;rw[←hst]at hn;simp[zQ,zP,hil,qZ hil,yZ]
  intros
  refine zR hn (by simp[zB]) (by simp) ?_;simp;exact zW (i+1) hil (by omega) (zV [0,1] 0 (by decide) (by simp) (by simp[zQ,zP]) (by simp[hw]))
 ·have hie:i=d.slots.length:=by omega
  subst hie;clear hw;rw[hsall];have hRa:=hRs d.slots.length;rw[hsall]at hRa;clear hRs;generalize namS d.slots []=A at *
  have hRn:=fun n=>RS.rnds hf hRa n
  simp[zQ,zP]
  intros
  refine qP (S:=Nat) (fun n=>[(2,.ptr 0 0),(5,.sl (zCr p.defs n A).length (zX (zCr p.defs n A))),(7,int n)]) (fun i=>[.box (zQ p)]) (fun n=>n≤p.defs.length) (fun n=>p.defs.length-n) 0 (by simp)
   (zV [0] 0 (by decide) (by simp) (by simp[zQ]) (by simp[zCr])) ?_
  intro n hn;have hw:IntKind.i64.wrap ((n:Int)+1)=(n:Int)+1:=IntWalk.i64_in _ (by omega);by_cases hnl:n<p.defs.length
  ·have hRn':=hRn n;have hsu:zCr p.defs (n+1) A=p.defs.foldl (fun L d=>zD0 d L) (zCr p.defs n A):=rfl;generalize hBn:zCr p.defs (n+1) A=Bn at hsu;generalize zCr p.defs n A=C at *
   simp[zQ,hnl]
   intros
   have hRi:∀i,RS p ((p.defs.take i).foldl (fun L d=>zD0 d L) C):=fun i=>hRn'.rnd hf fun d hd'=>List.mem_of_mem_take hd'
   refine qP (S:=Nat) (fun i=>[(2,.ptr 0 0),(5,.sl ((p.defs.take i).foldl (fun L d=>zD0 d L) C).length (zX ((p.defs.take i).foldl (fun L d=>zD0 d L) C))),(7,int n),(8,int i)]) (fun i=>[.box (zQ p)]) (fun i=>i≤p.defs.length) (fun i=>p.defs.length-i) 0 (by simp)
    (zV [0] 0 (by decide) (by simp) (by simp[zQ]) (by simp)) ?_
   intro i hi;have hwi:IntKind.i64.wrap ((i:Int)+1)=(i:Int)+1:=IntWalk.i64_in _ (by omega);by_cases hil:i<p.defs.length
   ·have hRi':=hRi i;have hst:=zCg (fun L d=>zD0 d L) C hil;have hdf:yL p.defs p.defs[i].id=some p.defs[i]:=zFW hf.nd hil;have hxm:=List.getElem_mem hil;obtain⟨_,x6,_,_,xty⟩:=hf.slots _ hxm;have hdr:=jX hil;generalize hEn:(p.defs.take (i+1)).foldl (fun L d=>zD0 d L) C=En at hst;generalize (p.defs.take i).foldl (fun L d=>zD0 d L) C=E at *
    generalize p.defs[i]=x at *
    simp[zQ,hil,hdr,zP]
    intros
    refine zAn (zB0 p (by omega) x.id) (by simp[zQ,qL]) (by simp[zAh]) ?_;simp[zAh,hdf,zP];refine zR (qBI E x.id) (by simp[qL]) (by simp) ?_;by_cases hin:x.id∈E
    ·have hte:zD0 x E=namS x.slots E:=by unfold zD0; rw[if_pos hin]
     rw[hte]at hst;have hRk:∀k,RS p (namS (x.slots.take k) E):=fun k=>hRi'.namS hf fun s hs'=>xty s (List.mem_of_mem_take hs')
     have hxall:x.slots.take x.slots.length=x.slots:=List.take_length;have n0:namS [] E=E:=rfl;simp[hin];refine qP (S:=Nat) (fun k=>[(2,.ptr 0 0),(5,.sl (namS (x.slots.take k) E).length (zX (namS (x.slots.take k) E))),(7,int n),(8,int i),(9,.ptr 1 0),(11,int k)]) (fun i=>[.box (zQ p),.box (zP x)]) (fun k=>k≤x.slots.length) (fun k=>x.slots.length-k) 0 (by simp)
      (zV [0,1] 0 (by decide) (by simp) (by simp[zQ,zP]) (by simp[n0])) ?_
     intro k hk;have hwk:IntKind.i64.wrap ((k:Int)+1)=(k:Int)+1:=IntWalk.i64_in _ (by omega);by_cases hkl:k<x.slots.length
     ·have hn:=zNE hf (xty _ (List.getElem_mem hkl)) _ (hRk k);have hsk:namS (x.slots.take (k+1)) E=zB5 x.slots[k].typ (namS (x.slots.take k) E):=zCg (fun L (s:Slt)=>zB5 s.typ L) E hkl;rw[←hsk]at hn;simp[zQ,zP,hkl,qZ hkl,yZ]
      intros
      refine zR hn (by simp[zB]) (by simp) ?_;simp;exact zW (k+1) hkl (by omega) (zV [0,1] 0 (by decide) (by simp) (by simp[zQ,zP]) (by simp[hwk]))
     ·have hke:k=x.slots.length:=by omega
      subst hke;rw[hxall];rw[←hst];simp[zQ,zP]
      intros
      exact zW (i+1) hil (by omega) (zV [0] 0 (by decide) (by simp) (by simp[zQ]) (by simp[hwi,hEn]))
    ·have hte:zD0 x E=E:=by unfold zD0; rw[if_neg hin]
     rw[hte]at hst;simp[hin];exact zW (i+1) hil (by omega) (zV [0] 0 (by decide) (by simp) (by simp[zQ]) (by simp[hwi,hEn,hst]))
   ·have hie:i=p.defs.length:=by omega
    subst hie;rw[hdall,←hsu];simp[zQ]
    intros
    exact zW (n+1) hnl (by omega) (zV [0] 0 (by decide) (by simp) (by simp[zQ]) (by simp[hw,hBn]))
  ·have hne:n=p.defs.length:=by omega
   subst hne;have hRf:=hRn p.defs.length;generalize zCr p.defs p.defs.length A=R at *
   have hR8:=hRf.len hf;have hrall:R.take R.length=R:=List.take_length;simp[zQ]
   intros
   refine qP (S:=Nat) (fun i=>[(2,.ptr 0 0),(5,.sl R.length (zX R)),(12,.row 1 i),(13,int i)]) (fun i=>[.box (zQ p),.row false 29 3 i (zX (R.take i))]) (fun i=>i≤R.length) (fun i=>R.length-i) 0 (by simp)
    ((jZ (t:=12) (by simp) 29 3).trans (zV [0,1] 0 (by decide) (by simp) (by simp[zQ]) (by simp))) ?_
   intro i hi;have hwi:IntKind.i64.wrap ((i:Int)+1)=(i:Int)+1:=IntWalk.i64_in _ (by omega);by_cases hil:i<R.length
   ·obtain⟨y,hy,hye⟩:=List.mem_map.1 (hRf.sub _ (List.getElem_mem hil));obtain⟨k,hk,hke⟩:=List.getElem_of_mem hy;have hdf:yL p.defs R[i]=some y:=by rw[←hye,←hke]; exact zFW hf.nd hk
    have ht:zX (R.take (i+1))=zX (R.take i)++[int R[i].a,int R[i].b,int R[i].c]:=by rw[List.take_succ_eq_append_getElem hil,jD]; rfl
    simp[zQ,hil,jL hil]
    intros
    refine zAn (zB0 p (by omega) R[i]) (by simp[zQ,qL]) (by simp[zAh]) ?_;simp[zAh,hdf,zP,hil,jL hil];refine⟨⟨by simp[maxLen]; omega,by omega⟩,?_⟩;exact zW (i+1) hil (by omega) (zV [0,1] 0 (by decide) (by simp) (by simp[zQ,ht]) (by simp[hwi]))
   ·have hie:i=R.length:=by omega
    subst hie;rw[hrall];simp[zQ]
    intros
    exact zA 1 (by simp)
section
variable {p:Prg}{F:Int}{c:Nat}{m:Int}{ev:Evl}{e:Exp}{V:List EVar}{s:XS}
theorem zSr (hp:zMS p)(hsl:zPX p)(hL:p.defs.length≤1000000)(h:UIh p F c m ev)(hc:c≤100000)(hm0:0≤m){B:List Bnd}{t:Typ}(he:WE p B e t)(hV:EnvT p B V)(hN:NdV V)(hB:Bd c m s)(hVl:V.length+2+2*m≤100000)(hm:6+2*m≤100000):UVa p F e V s (qB p 2 ev e V s):=by
 cases he with
 | int _ i n r u ns h1 h2=>exact zPK rfl
 | bool _ i n r u ns h1=>exact zNP rfl
 | var _ i n r u ns _ hl=>exact zPn (e:=.mk i 2 n r u [] ns) rfl (by omega)
 | call _ i n r u ks ns hn d hd hk hl hw =>
  have e1:qB p 2 ev (.mk i 3 n r u ks ns) V s=zAl ev d (qN ev V ks s).1 (qN ev V ks s).2:=by simp[qB,dfn,hd]
  rw[e1];have hB1:=zDD h.bd V ks s hB;have hdm:=(zAz hd).1;have hA:=zHu h ks hn (fun k hk s=>by obtain⟨j,hj,rfl⟩:=List.getElem_of_mem hk;exact .of (hw j hj) hV hN) hB (by omega)
  refine zOU (e:=.mk i 3 n r u ks ns) hA hL rfl hd (zO6 h hc d _ (by rw[zCQ]; omega) (hsl d hdm).1 (fun hf _=>?_) hm hB1);obtain⟨ht,hz⟩:=zCz h.stop h.snd hV ks _ s hl hw hf;have hlen:=ht.len;rw[List.length_map]at hlen;exact⟨_,_,hp r d hd (by simp[zCn,hk]),EnvT.args ht hz,zFE (hsl d hdm).2 _ hlen⟩
 | op _ i n r u ks ns hn ts _ ho hl hw =>
  have e1:qB p 2 ev (.mk i 4 n r u ks ns) V s=(zf true (qN ev V ks s).2 (opV n (qN ev V ks s).1),(qN ev V ks s).2):=by simp[qB]
  rw[e1];have hA:=zHu h ks hn (fun k hk s=>by obtain⟨j,hj,rfl⟩:=List.getElem_of_mem hk;exact .of (hw j hj) hV hN) hB (by omega)
  refine zSs (e:=.mk i 4 n r u ks ns) hA rfl (fun hf=>⟨zEe hf,ts,_,ho,?_⟩) fun hf=>by simp[zf,hf]
  exact zCz h.stop h.snd hV ks _ s hl hw hf
 | record _ i n r u ks ns hn d hd hk hl hw =>
  have e1:qB p 2 ev (.mk i 7 n r u ks ns) V s=(.mk 2 0 (qN ev V ks s).1,(qN ev V ks s).2):=by simp[qB,zf]
  rw[e1];exact zP8 (e:=.mk i 7 n r u ks ns) (zHu h ks hn (fun k hk s=>by obtain⟨j,hj,rfl⟩:=List.getElem_of_mem hk;exact .of (hw j hj) hV hN) hB (by omega)) rfl
 | case _ i r u a ns d j hd hk hj ha =>
  have e1:qB p 2 ev (.mk i 9 j r u [a] ns) V s=(.mk 3 j (qN ev V [a] s).1,(qN ev V [a] s).2):=by simp[qB,zf]
  rw[e1];exact zOq (e:=.mk i 9 j r u [a] ns) (zHu h [a] (by simp) (fun k hk s=>by simp only[List.mem_singleton]at hk;subst hk;exact .of ha hV hN) hB (by omega)) rfl
 | list _ i n r u ks ns t hn hw =>
  have e1:qB p 2 ev (.mk i 11 n r u ks ns) V s=(.mk 4 0 (qN ev V ks s).1,(qN ev V ks s).2):=by simp[qB,zf]
  rw[e1];exact zNo (e:=.mk i 11 n r u ks ns) (zHu h ks hn (fun k hk s=>by obtain⟨j,hj,rfl⟩:=List.getElem_of_mem hk;exact .of (hw j hj) hV hN) hB (by omega)) rfl
 | ite _ i n r u a b c ns _ ha hb hc =>
  have e1:qB p 2 ev (.mk i 5 n r u [a,b,c] ns) V s=qG ev (.mk i 5 n r u [a,b,c] ns) V s:=by simp[qB]
  rw[e1];exact zXs h rfl rfl ha hb hc hV hN hB.bn (by omega)
 | lets _ i n r u a b ns v _ hfr ha hb =>
  have e1:qB p 2 ev (.mk i 6 n r u [a,b] ns) V s=qG ev (.mk i 6 n r u [a,b] ns) V s:=by simp[qB]
  rw[e1];exact zXa h rfl rfl hfr ha hb hV hN hB.bn hVl hm0
 | field _ i r u a ns d j hd hk hj ha =>
  have e1:qB p 2 ev (.mk i 8 j r u [a] ns) V s=qG ev (.mk i 8 j r u [a] ns) V s:=by simp[qB]
  rw[e1];exact zRU h rfl rfl rfl hd hk hj ha hV hN hB.bn (by omega)
 | mtch _ i n r u a ks ns d _ hfr hd hk hl ha hw =>
  have e1:qB p 2 ev (.mk i 10 n r u (a::ks) ns) V s=qG ev (.mk i 10 n r u (a::ks) ns) V s:=by simp[qB]
  rw[e1];exact zSZ h rfl rfl hfr hd hk hl (by have:=(hsl d (zAz hd).1).1; omega) ha hw hV hN hB.bn hVl hm0
 | fold _ i n r u l s' b ns v _ hfr hl' hs' hb =>
  have e1:qB p 2 ev (.mk i 12 n r u [l,s',b] ns) V s=qG ev (.mk i 12 n r u [l,s',b] ns) V s:=by simp[qB]
  rw[e1];exact zUU h rfl rfl hfr hl' hs' hb hV hN hB.bn hVl hm0
def zWI:K:=G [kO 4 1,kZ 6 [ki,ki,kl]] (Z (G [M 8 0,kU 9 8,D 10 9 4,L 11 10 1,kQi 12 11 0 true] (Y 12 (G [kb 13 [ki,ki,kl] [],S 6 13 3] kr) ks)) (Z (Z (K.dops [(0,0,M 14 0),(1,0,kU 15 14),(2,0,D 16 15 3),(3,0,L 17 16 1),(4,0,M 18 0),(5,0,kU 19 18),(6,0,D 20 19 2),(7,0,L 21 20 1),(8,0,kB 22 17 21 .geq)]) (Y 22 (G [M 23 0,kU 24 23,D 25 24 4,⟨none,.st none (kt 25) (kc 18) 1⟩] (G [kb 26 [ki,ki,kl] [],S 6 26 3] kr)) ks)) (G [M 27 0,M 28 0,kU 29 28,D 30 29 3,L 31 30 1,kBi 32 31 1 .add,kU 33 27,D 34 33 3,S 34 32 1] (G [M 35 0,J 36 4 15,M 37 2,kC 38 158 [(kt 35),(kt 36),(kt 37)],kZ 7 [ki,ki,kl],S 7 38 3] (Z (G [M 39 0,kU 40 39,D 41 40 4,L 42 41 1,kQi 43 42 0 false,M 44 43,T 44 true (J 45 7 3),T 44 true (kC 46 121 [(kt 45)]),T 44 true (kBi 47 46 256 .gtr),T 44 true (M 48 47),T 48 false (J 49 7 3),T 48 false (kC 50 122 [(kt 49)]),T 48 false (kBi 51 50 24 .gtr),T 44 true (kPt 52 48 51),kPf 53 44 52] (Y 53 (K.ops [M 54 0,kU 55 54,D 56 55 4,⟨none,.st none (kt 56) (kc 4) 1⟩]) ks)) (Z (G [M 57 0,kU 58 57,D 59 58 4,L 60 59 1,kQi 61 60 0 true] (Y 61 (G [kb 62 [ki,ki,kl] [],S 6 62 3] kr) ks)) (G [J 63 7 3,S 6 63 3] kr)))))))
theorem qCo:zN Tryz.prog Tryz.f137.ntmps (Tryz.f137.body.getD .skip)=some zWI.erase:=by kernel_rfl
@[simp] theorem qL5:zC Tryz.prog 137=true:=by kernel_rfl
theorem zLK (hf:s.fail≠0):UOk p F (vz,s) e V s:=by have hP:=eP p;refine zK Tryz.func137 rfl qCo (rs:=[.cell 6 3 true]) (by kernel_rfl) ?_;unfold zWI;simp[uS,hP,zH,hf];exact zF [0] 0 (by decide) (by simp) (by simp) (by simp[zI,zU,zO,zG])
theorem zLX (hf:s.fail=0)(hu:s.fuel≤0):UOk p F (vz,{s with fail:=zKw}) e V s:=by
 have hP:=eP p;refine zK Tryz.func137 rfl qCo (rs:=[.cell 6 3 true]) (by kernel_rfl) ?_;unfold zWI;have hu:F≤F-s.fuel:=by omega
 simp[uS,hP,zH,hf,hu];exact zF [0] 0 (by decide) (by simp) (by simp) (by simp[zI,zU,zO,zG])
set_option maxHeartbeats 1000000 in
theorem zVl {r:Val×XS}(hc:c≤100000)(hmF:m≤F)(hF:F≤100000)(hf:s.fail=0)(hu:¬s.fuel≤0)(hB:Bn c m s)(hv:UVa p F e V (zEg e s) r):UOk p F (zCO 2 r) e V s:=by
 have hP:=eP p;have b1:=hB.ns;have b2:=hB.ds;have b3:=hB.fu;have hu':¬F≤F-s.fuel:=by omega
 have hw:IntKind.i64.wrap (F-s.fuel+1)=F-(s.fuel-1):=by rw[IntWalk.i64_in _ (by omega)]; omega
 have ht:zEg e s=⟨s.fuel-1,s.fail,s.ds,s.ns++[e.id]⟩:=rfl;rw[ht,hf]at hv;refine zK Tryz.func137 rfl qCo (rs:=[.cell 6 3 true]) (by kernel_rfl) ?_;unfold zWI;simp[uS,hP,zH,hf,hu',hw];refine zM hv [0] (by decide) (by simp[uS,hP]) (by simp[zH]) ?_;simp[uS,hP,zI];by_cases h0:r.2.fail=0
 ·simp[h0];refine zR (zDr r.1) (by simp[zI]) (by simp) ?_;by_cases h1:256<zDe r.1
  ·have hl:zB4 r={r.2 with fail:=zAC}:=by unfold zB4; rw[if_pos ⟨h0,.inl h1⟩]
   have he:zCO 2 r=(vz,{r.2 with fail:=zAC}):=by simp[zCO,hl,zf,zAC]
   rw[he];simp[h1];exact zF [0] 0 (by decide) (by simp) (by simp[zAC]) (by simp[zI,zU,zO,zG])
  ·simp[h1];refine zR (zCR r.1) (by simp[zI]) (by simp) ?_;by_cases h2:24<zBO r.1
   ·have hl:zB4 r={r.2 with fail:=zAC}:=by unfold zB4; rw[if_pos ⟨h0,.inr h2⟩]
    have he:zCO 2 r=(vz,{r.2 with fail:=zAC}):=by simp[zCO,hl,zf,zAC]
    rw[he];simp[h2];exact zF [0] 0 (by decide) (by simp) (by simp[zAC]) (by simp[zI,zU,zO,zG])
   ·have hl:zB4 r=r.2:=by unfold zB4; rw[if_neg fun h=>h.2.elim h1 h2]
    have he:zCO 2 r=(r.1,r.2):=by simp[zCO,hl,zf,h0]
    rw[he];simp[h2,h0];exact zF [0] 0 (by decide) (by simp) (by simp[h0]) (by simp[zI])
 ·have hl:zB4 r=r.2:=by unfold zB4; rw[if_neg fun h=>h0 h.1]
  have he:zCO 2 r=(vz,r.2):=by simp[zCO,hl,zf,h0]
  rw[he];simp[h0];exact zF [0] 0 (by decide) (by simp) (by simp) (by simp[zI,zU,zO,zG])
theorem qEN (hp:zMS p)(hsl:zPX p)(hL:p.defs.length≤1000000)(hc:c≤40000)(hF:F≤100000){N:Int}(hN6:N≤40000)(hNF:N≤F):∀n:Nat,(0<n→(n:Int)≤N)→UIh p F c n (zAq p 2 n)
 | 0,_=>⟨zBk p 2 0,zDv hp 2 0,zDz 2 0,fun e V s hA hB hVl=>by
  rw[zAq];have hu:=hB.fu;split
  ·rename_i hf; exact zLK hf
  ·rename_i hf; exact zLX (by omega) (by omega)⟩
 | n+1,hn=>⟨zBk p 2 (n+1),zDv hp 2 (n+1),zDz 2 (n+1),fun e V s hA hB hVl=>by
  have hn:=hn (by omega);rw[zAq];split
  ·rename_i hf; exact zLK hf
  ·rename_i hf;have hf:s.fail=0:=by omega
   split
   ·rename_i hu; exact zLX hf hu
   ·rename_i hu;obtain⟨B,t,he,hV,hN⟩:=hA hf;have ht:=hB.tick e hu;have:((n+1:Nat):Int)-1=n:=by omega
    rw[this]at ht;exact zVl (by omega) (by omega) (by omega) hf hu hB (zSr hp hsl hL (qEN hp hsl hL hc hF hN6 hNF n (fun _=>by omega)) (by omega) (by omega) he hV hN ht (by omega) (by omega))⟩
end
def Fl (s:XS):Prop:=s.fail=0∨s.fail=4∨s.fail=18
section
variable {p:Prg}{ev:Evl}
theorem zRA (h:∀e V s,Fl s→Fl (ev e V s).2)(V:List EVar):∀(l:List Exp) (s:XS),Fl s→Fl (qN ev V l s).2
 | [],s,hs=>hs
 | e::l,s,hs=>by simp only[qN]; exact zRA h V l _ (h e V s hs)
theorem zOn (h:∀e V s,Fl s→Fl (ev e V s).2)(V:List EVar)(i:Id)(b:Exp):∀(l:List Val) (r:Val×XS),Fl r.2→Fl (jU ev V i b l r).2
 | [],r,hs=>hs
 | e::l,r,hs=>by simp only[jU]; exact zOn h V i b l _ (h _ _ _ hs)
theorem zNd (h:∀e V s,Fl s→Fl (ev e V s).2)(d:Dfn)(vs:List Val)(s:XS)(hs:Fl s):Fl (zAl ev d vs s).2:=by
 unfold zAl;split
 ·exact hs
 ·exact h _ _ _ hs
theorem zPT (h:∀e V s,Fl s→Fl (ev e V s).2)(e:Exp)(V:List EVar)(s:XS)(hs:Fl s):Fl (qG ev e V s).2:=by
 unfold qG;have h0:=h (e.kids.headD .zero) V s hs;generalize ev (e.kids.headD .zero) V s=r at *
 repeat' split
 all_goals first
  | exact h0
  | exact h _ _ _ h0
  | exact zOn h _ _ _ _ _ (h _ _ _ h0)
theorem zRK (h:∀e V s,Fl s→Fl (ev e V s).2)(fl:Nat)(e:Exp)(V:List EVar)(s:XS)(hs:Fl s):Fl (qB p fl ev e V s).2:=by
 unfold qB;have h0:=zRA h V e.kids s hs;generalize qN ev V e.kids s=r at *
 repeat' split
 all_goals first
  | exact hs
  | exact h0
  | exact zPT h _ _ _ hs
  | exact zNd h _ _ _ h0
theorem zXO {r:Val×XS}(h:Fl r.2):Fl (zB4 r):=by
 unfold zB4;split
 ·exact .inr (.inl rfl)
 ·exact h
theorem zOm (fl:Nat):∀(n:Nat) e V s,Fl s→Fl (zAq p fl n e V s).2
 | 0,e,V,s,hs=>by
  rw[zAq];split
  ·exact hs
  ·exact .inr (.inr rfl)
 | n+1,e,V,s,hs=>by
  rw[zAq];split
  ·exact hs
  ·split
   ·exact .inr (.inr rfl)
   ·exact zXO (zRK (zOm fl n) fl e V _ hs)
end
def zGa (p:Prg)(d:Dfn)(vs:List Val)(fuel:Int):Val×XS:=zAl (zAq p 2 fuel.toNat) d vs ⟨fuel,0,[],[]⟩
def zA5 (p:Prg)(id:Id)(vs:List Val)(fuel:Int):Val×Int×Int:=match yL p.defs id with
 | none=>(vz,0,6)
 | some d=>if zCu d.kind=false then (vz,0,6) else if vs.length≠d.slots.length then (vz,0,1)
  else if zBf p (d.slots.map Slt.typ) vs=false then (vz,0,1) else if (zGa p d vs fuel).2.fail≠0 then (vz,0,(zGa p d vs fuel).2.fail) else ((zGa p d vs fuel).1,fuel-(zGa p d vs fuel).2.fuel,0)
def zI3 (r:Val×Int×Int):A:=.tup [.agg (zI r.1),int r.2.1,int r.2.2]
theorem zO7 {fuel:Int}(hfu:fuel≤30000){L:List Id}(hL:L.length≤8):Bd 40000 fuel.toNat ⟨fuel,0,L,[]⟩:=⟨by simp; omega,by simp only; omega,by simp only; omega,fun _=>by simp only; omega⟩
def qJp:K:=G [kO 4 0,kO 5 1,kZ 8 [ki,ki,kl],kMi 9 0,kMi 10 0] (G [J 17 4 2,J 18 5 3,kC 19 26 [(kt 17),(kt 18)],M 16 19,kE 20 16 0,kE 21 16 1,kZ 11 kz0,S 11 20 31,M 12 21] (Z (G [M 22 12,kR 23 22,M 24 23,T 24 false (J 25 11 31),T 24 false (kC 26 25 [(kt 25)]),T 24 false (kR 27 26),kPt 28 24 27] (Y 28 (G [kb 29 [ki,ki,kl] [],S 8 29 3,kMi 9 0,kMi 10 6] kr) ks)) (Z (G [M 30 2,kN 31 30,D 32 11 8,L 33 32 1,kN 34 33,kQ 35 31 34 true] (Y 35 (G [kb 36 [ki,ki,kl] [],S 8 36 3,kMi 9 0,kMi 10 1] kr) ks)) (Z (G [kMi 13 0] (K.block 0 (K.loop (Z (G [M 37 13,M 38 2,kN 39 38,kB 40 37 39 .lss] (Y 40 ks (K.exit 0))) (Z (K.block 1 (Z (K.dops [(0,0,J 43 4 2),(1,0,D 44 11 8),(2,0,L 45 44 1),(3,0,M 46 13),(4,0,kX 47 45 46 11),(5,0,D 48 47 4),(6,0,J 49 48 5),(7,0,M 50 2),(8,0,M 51 13),(9,0,kX 52 50 51 3),(10,0,J 53 52 3),(11,0,kC 54 98 [(kt 43),(kt 49),(kt 53)]),(12,0,kR 55 54)]) (Y 55 (G [kb 56 [ki,ki,kl] [],S 8 56 3,kMi 9 0,kMi 10 1] kr) ks))) (K.ops [M 41 13,kBi 42 41 1 .add,M 13 42])))))) (G [J 57 4 2,M 58 3,kb 59 [kl,kl,ki,ki,ki] [(0,2,(kt 57)),(2,1,(kt 58))],kO 60 59,M 14 60] (G [M 61 14,J 62 11 31,M 63 2,kC 64 99 [(kt 61),(kt 62),(kt 63)],kZ 15 [ki,ki,kl],S 15 64 3] (Z (G [M 65 14,kU 66 65,D 67 66 4,L 68 67 1,kQi 69 68 0 true] (Y 69 (Z (K.dops [(0,0,kb 70 [ki,ki,kl] []),(1,0,M 71 14),(2,0,kU 72 71),(3,2,D 73 72 4),(4,2004,L 74 73 1),(5,1004,S 8 70 3),(6,0,kMi 9 0),(7,0,M 10 74)]) kr) ks)) (Z (K.dops [(0,0,J 75 15 3),(1,0,M 76 14),(2,0,kU 77 76),(3,2,D 78 77 3),(4,2004,L 79 78 1),(5,1004,S 8 75 3),(6,0,
 M 9 79),(7,0,kMi 10 0)]) kr))))))))
def qM8:Nat→Option (List (Nat×Nat)):=fun r=>match r with | 14=>some [(0,0),(1,0),(2,0),(3,2),(4,2004),(5,1004),(6,0),(7,0)] | 15=>some [(0,0),(1,0),(2,0),(3,2),(4,2004),(5,1004),(6,0),(7,0)] | _=>none
theorem qMS:qJ Tryz.prog Tryz.f49.ntmps qM8 (Tryz.f49.body.getD .skip)=some qJp.erase:=by kernel_rfl
@[simp] theorem qL7:zC Tryz.prog 49=true:=by kernel_rfl
set_option maxHeartbeats 4000000 in
set_option maxRecDepth 100000 in
theorem zTz {p:Prg}{hs:List Hd}(hf:Fit p hs)(id:Id)(vs:List Val)(fuel:Int)(hfu:fuel≤30000)(hz:∀v∈vs,qE v≤256∧zAg v≤24) :
 Ret Tryz.prog 49 [.agg (zQ p),.agg (qL id),.sl vs.length (zZ vs),int fuel] [] (zI3 (zA5 p id vs fuel)) []:=by
 have hP:=eP p;have hL8:=hf.len8;refine zJ Tryz.func49 rfl qMS (rs:=[.cell 8 3 true,.slot 9,.slot 10]) (by kernel_rfl) ?_;unfold qJp;simp[hP,qL];refine zR (zB0 p (by omega) id) (by simp[zQ,qL]) (by simp[zAh]) ?_;cases hd:yL p.defs id with
 | none =>
  rw[show zA5 p id vs fuel=(vz,0,6) by simp[zA5,hd]];simp[zAh,hd,zP];exact zA 0 (by simp[zI3,zI,zU,zO,zG])
 | some d =>
 have hdm:=(zAz hd).1;obtain⟨s1,s6,_,snd,sty⟩:=hf.slots d hdm;simp[zAh,hd,zP];refine zR (zQK d) (by simp[zP]) (by simp) ?_;cases hb:zCu d.kind with
 | false =>
  rw[show zA5 p id vs fuel=(vz,0,6) by simp[zA5,hd,hb]];simp;exact zA 0 (by simp[zI3,zI,zU,zO,zG])
 | true =>
 by_cases hl:vs.length=d.slots.length
 ·have hfit:=fun i (hi:i<d.slots.length)=>zRZ p (by omega) d.slots[i].typ (vs[i]'(by omega)) (hz _ (List.getElem_mem _)).1 (hz _ (List.getElem_mem _)).2
  simp[hl]
  intros
  refine qP (S:=Nat) (fun i=>[(2,.sl vs.length (zZ vs)),(3,int fuel),(4,.ptr 0 0),(8,.ptr 2 0),(11,.ptr 3 0),(13,int i)])
   (fun i=>[.box (zQ p),.box (qL id),.box [int 0,int 0,.nil],.box (zP d)]) (fun i=>i≤d.slots.length∧∀j (hj:j<i) (hj':j<d.slots.length),zAy p d.slots[j].typ (vs[j]'(by omega))=true) (fun i=>d.slots.length-i) 0 ⟨by omega,fun j hj=>by omega⟩
   (zV [0,1,2,3] 0 (by decide) (by simp) (by simp[hP,qL,zP]) (by simp[hl])) ?_
  rintro i ⟨hi,hft⟩;have hwi:IntKind.i64.wrap ((i:Int)+1)=(i:Int)+1:=IntWalk.i64_in _ (by omega);by_cases hil:i<d.slots.length
  ·have hiv:i<vs.length:=by omega
   have hdr:=qZ hil;have hdv:=qY hiv;have hfi:=hfit i hil;cases hfv:zAy p d.slots[i].typ vs[i]with
   | false =>
    rw[hfv]at hfi;have hfl:zBf p (d.slots.map Slt.typ) vs=false:=by
     cases hq:zBf p (d.slots.map Slt.typ) vs with
     | false=>rfl
     | true =>
      have:=zEl hq i (by simpa using hil) hiv;rw[List.getElem_map,hfv]at this;cases this
    rw[show zA5 p id vs fuel=(vz,0,1) by simp[zA5,hd,hb,hl,hfl]];simp[hP,zP,hil,hiv,hdr,hdv,yZ]
    intros
    refine qI hfi (by simp[hP,zB,zI]) (by simp) ?_;simp;exact zA 0 (by simp[zI3,zI,zU,zO,zG])
   | true =>
    rw[hfv]at hfi;simp[hP,zP,hil,hiv,hdr,hdv,yZ]
    intros
    refine qI hfi (by simp[hP,zB,zI]) (by simp) ?_;simp;refine zW (i+1) ⟨hil,fun j hj hj'=>?_⟩ (by omega) (zV [0,1,2,3] 0 (by decide) (by simp) (by simp[hP,qL,zP]) (by simp[hwi]));by_cases hji:j=i
    ·subst hji; exact hfv
    ·exact hft j (by omega) hj'
  ·have hie:i=d.slots.length:=by omega
   subst hie;have hfl:zBf p (d.slots.map Slt.typ) vs=true:=zIg (by simpa using hl) fun j h1 h2=>by rw[List.getElem_map];exact hft j (by simpa using h1) (by simpa using h1)
   have hx:zA5 p id vs fuel=if (zGa p d vs fuel).2.fail≠0 then (vz,0,(zGa p d vs fuel).2.fail) else ((zGa p d vs fuel).1,fuel-(zGa p d vs fuel).2.fuel,0):=by simp[zA5,hd,hb,hl,hfl]
   generalize zA5 p id vs fuel=U at hx ⊢;have hty:TyL p (d.slots.map Slt.typ) vs:=TyL.of (by simpa using hl) fun j hj=>by rw[List.getElem_map];exact zM3 hf (sty _ (List.getElem_mem _)) _ (hft j (by omega) (by omega))
   have hbB:zCn d=true:=zI7 hb;have hBd:Bd 40000 fuel.toNat ⟨fuel,0,[],[]⟩:=zO7 hfu (by simp);have hIh:UIh p fuel 40000 fuel.toNat (zAq p 2 fuel.toNat):=qEN hf.bods (zIj hf) (by omega) (by omega) (by omega) (N:=fuel) (by omega) (by omega) fuel.toNat (fun h=>by omega);have hbo:=zO6 hIh (by omega) d vs (by omega) s6 (fun _ _=>⟨_,_,hf.bods _ d hd hbB,EnvT.args hty fun v hv=>(hz v hv).1,zFE snd vs hl⟩) (by omega) hBd;change Ret Tryz.prog 99 _ _ (.agg (zI (zGa p d vs fuel).1)) (uS p fuel (zGa p d vs fuel).2)at hbo;generalize zGa p d vs fuel=r at *
   obtain⟨v,s⟩:=r;simp only at *
   have hvl:¬((d.slots.length:Int)<vs.length):=by omega
   simp[hP,zP,hvl]
   intros
   refine zM hbo [4] (by decide) (by simp[uS,hP]) (by simp[zP]) ?_;simp[uS,hP,zI];by_cases h0:s.fail=0
   ·rw[if_neg (by simp[h0])]at hx;subst hx;simp[h0];exact⟨by simp[zAr],by simp[zAr,zBU],zA 0 (by simp[zI3,zI])⟩
   ·rw[if_pos h0]at hx;subst hx;simp[h0];exact⟨by simp[zAr],by simp[zAr,zBU],zA 0 (by simp[zI3,zI,zU,zO,zG])⟩
 ·rw[show zA5 p id vs fuel=(vz,0,1) by simp[zA5,hd,hb,hl]];have hl':¬((vs.length:Int)=d.slots.length):=by omega
  simp[hl']
  intros
  exact zA 0 (by simp[zI3,zI,zU,zO,zG])
def zWo (p:Prg)(d:Dfn)(vs:List Val)(fuel:Int):Val×XS:=zAl (zAq p 0 fuel.toNat) d vs ⟨fuel,0,zAE p d.slots [],[]⟩
theorem zUy {r r':Val×XS}(h:Eqv r r'):zH8 r=zH8 r':=by
 unfold zH8;rw[←h.1];by_cases hf:r.2.fail=0
 ·rw[if_pos hf,if_pos hf,h.2 hf]
 ·rw[if_neg hf,if_neg hf]
theorem zWU (p:Prg)(d:Dfn)(vs:List Val)(fuel:Int):zH8 (zWo p d vs fuel)=zH8 (zPx p d vs fuel):=zUy (zLZ (zMc 0 1 fuel.toNat) d rfl fun _=>rfl)
theorem zYw (p:Prg)(d:Dfn)(vs:List Val)(fuel:Int):Fl (zGa p d vs fuel).2:=zNd (zOm 2 fuel.toNat) d vs _ (.inl rfl)
def qFr:K:=G [kO 4 0,kO 5 1,kZ 8 [ki,ki,kl],kZ 9 [kl,kl],kMi 10 0] (G [J 19 4 2,J 20 5 3,M 21 2,M 22 3,kC 23 49 [(kt 19),(kt 20),(kt 21),(kt 22)],M 18 23,kE 24 18 0,kE 25 18 1,kE 26 18 2,kZ 11 [ki,ki,kl],S 11 24 3,M 12 25,M 13 26] (Z (G [M 27 13,kQi 28 27 6 false,M 29 28,T 29 false (M 30 13),T 29 false (kQi 31 30 1 false),kPt 32 29 31] (Y 32 (G [kb 33 [ki,ki,kl] [],kb 34 [kl,kl] [],M 35 13,S 8 33 3,S 9 34 2,M 10 35] kr) ks)) (G [J 37 4 2,J 38 5 3,kC 39 26 [(kt 37),(kt 38)],M 36 39,kE 40 36 0,kE 41 36 1,kZ 14 kz0,S 14 40 31,M 15 41] (G [J 42 4 2,M 43 3,kb 44 [kl,kl,ki,ki,kl,kl] [(0,2,(kt 42)),(2,1,(kt 43))],kO 45 44,M 16 45] (G [M 46 16,J 47 4 2,J 48 14 31,kC 49 50 [(kt 47),(kt 48)],kU 50 46,D 51 50 4,D 52 51 0,S 52 49 1] (G [M 53 16,J 54 14 31,M 55 2,kC 56 51 [(kt 53),(kt 54),(kt 55)],kZ 17 [ki,ki,kl],S 17 56 3] (Z (G [M 57 16,kU 58 57,D 59 58 3,L 60 59 1,kQi 61 60 0 true] (Y 61 (K.ops [kb 62 [ki,ki,kl] [],S 17 62 3]) ks)) (Z (K.dops [(0,0,J 63 17 3),(1,0,M 64 16),(2,0,kU 65 64),(3,2,D 66 65 4),(4,2004,J 67 66 2),(5,0,M 68 16),(6,0,kU 69 68),(7,2,D 70 69 3),(8,2004,L 71 70 1),(9,1004,S 8 63 3),(10,1004,S 9 67 2),(11,0,M 10 71)]) kr))))))))
def qO6:Nat→Option (List (Nat×Nat)):=fun r=>match r with | 10=>some [(0,0),(1,0),(2,0),(3,2),(4,2004),(5,0),(6,0),(7,2),(8,2004),(9,1004),(10,1004),(11,0)] | _=>none
theorem qNA:qJ Tryz.prog Tryz.f14.ntmps qO6 (Tryz.f14.body.getD .skip)=some qFr.erase:=by kernel_rfl
@[simp] theorem qMw:zC Tryz.prog 14=true:=by kernel_rfl
set_option maxHeartbeats 4000000 in
set_option maxRecDepth 100000 in
theorem zVo {p:Prg}{hs:List Hd}(hf:Fit p hs)(id:Id)(vs:List Val)(fuel:Int)(hfu:fuel≤30000)(hz:∀v∈vs,qE v≤256∧zAg v≤24) :
 Ret Tryz.prog 14 [.agg (zQ p),.agg (qL id),.sl vs.length (zZ vs),int fuel] [] (zB3 (zB9 p id vs fuel)) []:=by
 have hP:=eP p;have hL8:=hf.len8;have hu:=zTz hf id vs fuel hfu hz;refine zJ Tryz.func14 rfl qNA (rs:=[.cell 8 3 true,.cell 9 2 true,.slot 10]) (by kernel_rfl) ?_;unfold qFr;simp[hP,qL];refine zR hu (by simp[zQ,qL]) (by simp[zI3,zI]) ?_;cases hd:yL p.defs id with
 | none =>
  rw[show zB9 p id vs fuel=⟨vz,[],[],6⟩ by simp[zB9,hd],show zA5 p id vs fuel=(vz,0,6) by simp[zA5,hd]];simp[zI3,zI];exact zA 0 (by simp[zB3,zI,zU,zO,zG])
 | some d =>
 have hdm:=(zAz hd).1;obtain⟨s1,s6,_,snd,sty⟩:=hf.slots d hdm;cases hb:zCu d.kind with
 | false =>
  rw[show zB9 p id vs fuel=⟨vz,[],[],6⟩ by simp[zB9,hd,hb],show zA5 p id vs fuel=(vz,0,6) by simp[zA5,hd,hb]];simp[zI3,zI];exact zA 0 (by simp[zB3,zI,zU,zO,zG])
 | true =>
 by_cases hl:vs.length=d.slots.length
 ·cases hfl:zBf p (d.slots.map Slt.typ) vs with
  | false =>
   rw[show zB9 p id vs fuel=⟨vz,[],[],1⟩ by simp[zB9,hd,hb,hl,hfl],show zA5 p id vs fuel=(vz,0,1) by simp[zA5,hd,hb,hl,hfl]];simp[zI3,zI];exact zA 0 (by simp[zB3,zI,zU,zO,zG])
  | true =>
  obtain⟨uv,us,ue,hue,he1,he6⟩:∃(uv:Val) (us ue:Int),zA5 p id vs fuel=(uv,us,ue)∧ue≠1∧ue≠6:=by
   have hfl':=zYw p d vs fuel;have hx:zA5 p id vs fuel=if (zGa p d vs fuel).2.fail≠0 then (vz,0,(zGa p d vs fuel).2.fail) else ((zGa p d vs fuel).1,fuel-(zGa p d vs fuel).2.fuel,0):=by simp[zA5,hd,hb,hl,hfl]
   rw[hx];split
   ·refine⟨_,_,_,rfl,?_,?_⟩<;>rcases hfl' with h | h | h<;>omega
   ·exact⟨_,_,_,rfl,by omega,by omega⟩
  have hx:zB9 p id vs fuel=zH8 (zWo p d vs fuel):=by rw[zWU]; simp[zB9,hd,hb,hl,hfl]
  rw[hue];generalize zB9 p id vs fuel=U at hx ⊢;have hft:∀(j:Nat) (hj:j<vs.length),zAy p (d.slots[j]'(by omega)).typ vs[j]=true:=fun j hj=>by
   have:=zEl hfl j (by rw[List.length_map]; omega) hj
   rwa [List.getElem_map]at this
  have hty:TyL p (d.slots.map Slt.typ) vs:=TyL.of (by simpa using hl) fun j hj=>by rw[List.getElem_map];exact zM3 hf (sty _ (List.getElem_mem _)) _ (hft j hj)
  have hbB:zCn d=true:=zI7 hb;have hre:=zPD hf d hdm;have hss:=zEv (zAE p d.slots []);have hL:(zAE p d.slots []).length≤8:=by
   have hrl:∀(ss:List Slt) (L:List Id),(∀s∈ss,TyOk hs 4 s.typ)→RL p L→RL p (zAE p ss L):=by
    intro ss;induction ss with
    | nil=>intro L _ h; exact h
    | cons s ss ih =>
     intro L hst h;exact ih _ (fun x hx=>hst x (by simp[hx])) ((zNf hf ⟨0,0,[],[]⟩ rfl (hst s (by simp)) 10 (by omega) L h).1)
   exact(hrl d.slots [] sty ⟨by simp,by simp⟩).len hf
  have hBd:Bd 40000 fuel.toNat ⟨fuel,0,zAE p d.slots [],[]⟩:=zO7 hfu hL;have hIh:XIh p 40000 fuel.toNat (zAq p 0 fuel.toNat):=qIi hf.bods (zIj hf) (by omega) (by omega) (N:=30000) (by omega) fuel.toNat (fun h=>by omega);have hbo:=zOT hIh (by omega) d vs (by omega) s6 (fun _ _=>⟨_,_,hf.bods _ d hd hbB,EnvT.args hty fun v hv=>(hz v hv).1,zFE snd vs hl⟩) (by omega) hBd;change Ret Tryz.prog 51 _ _ (.agg (zI (zWo p d vs fuel).1)) (xS p (zWo p d vs fuel).2)at hbo;generalize zWo p d vs fuel=r at *
  obtain⟨v,s⟩:=r;simp only at *
  have hn0:zBj []=[]:=by rw[zFK]; rfl
  generalize zAE p d.slots []=L at *
  simp[zI3,zI,he1,he6];refine zR (zB0 p (by omega) id) (by simp[zQ,qL]) (by simp[zAh]) ?_;simp[zAh,hd,zP];refine zR hre (by simp[zQ,zP]) (by simp) ?_;simp;refine zM hbo [6] (by decide) (by simp[xS,hP,hn0]) (by simp[zP]) ?_;simp[xS,hP,zI];by_cases h0:s.fail=0
  ·have he:U=⟨v,zBj s.ds,zBj s.ns,s.fail⟩:=by rw[hx]; simp[zH8,h0]
   subst he;simp[h0];exact⟨by simp[zAr],by simp[zAr],by simp[zAr,zBU],by simp[zAr,zBU],zA 0 (by simp[zB3,zI])⟩
  ·have he:U=⟨vz,zBj s.ds,zBj s.ns,s.fail⟩:=by rw[hx]; simp[zH8,h0]
   subst he;simp[h0];exact⟨by simp[zAr],by simp[zAr],by simp[zAr,zBU],by simp[zAr,zBU],zA 0 (by simp[zB3,zI,zU,zO,zG])⟩
 ·rw[show zB9 p id vs fuel=⟨vz,[],[],1⟩ by simp[zB9,hd,hb,hl],show zA5 p id vs fuel=(vz,0,1) by simp[zA5,hd,hb,hl]];simp[zI3,zI];exact zA 0 (by simp[zB3,zI,zU,zO,zG])
end Go.Proofs.YthglhccibdlccaaGreatDoor
