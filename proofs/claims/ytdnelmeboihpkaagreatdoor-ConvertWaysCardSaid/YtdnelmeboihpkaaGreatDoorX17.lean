/-
  eval.do: an evaluation whose failure is recovered.
  The reference tracer's Call returns what the program's does.
  eval.Call.
  What a run has asked decides nothing: eval.Call and the reference's call agree.
  Paths of converters and values that follow them, as data.
  The converters of a program as edges, in the order of their IDs.
  Following a path: with more fuel, and in two parts.
  The paths of a program: what the reference lists.
  There are few paths.
  convert.follow and Along.
  The reference's Leads, IsPath, follow and Along.
  convert.order and edges.
-/
import Derived.Test.YtdnelmeboihpkaaGreatDoorX16
import Derived.Test.YtdnelmeboihpkaaGreatDoorX14
import Derived.Test.YtdnelmeboihpkaaGreatDoorX12
set_option linter.unusedVariables false
set_option maxHeartbeats 8000000
set_option maxRecDepth 100000
set_option linter.unusedSimpArgs false
namespace Go.Proofs.YtdnelmeboihpkaaGreatDoor
open Go Go.Abs
def qHt:List KG:=[⟨none,.box (some 3) (.tmp 0)⟩,⟨none,.alloc (some 6) [(.int .i64 0),(.int .i64 0),(.slice none 0 0)]⟩,⟨none,.alloc (some 7) [(.int .i64 0)]⟩,⟨none,.alloc (some 8) [(.int .i64 0)]⟩]
def qHu:List KG:=[⟨none,.ld (some 10) (.tmp 3) 2 true⟩,⟨none,.mov (some 11) (.tmp 1)⟩,⟨none,.mm (some 12) true [(.tmp 11),(.const (.int .i64 0))]⟩,
 ⟨none,.build (some 13) [(.slice none 0 0),(.slice none 0 0),(.int .i64 0),(.int .i64 0)] [(0,2,(.tmp 10)),(2,1,(.tmp 12))]⟩,⟨none,.box (some 14) (.tmp 13)⟩,⟨none,.mov (some 9) (.tmp 14)⟩]
def zXq:List KG:=[⟨none,.mov (some 16) (.tmp 2)⟩,⟨none,.mov (some 17) (.tmp 9)⟩,⟨none,.call (some 18) (.tmp 16) [(.tmp 17)]⟩,⟨none,.st none (.tmp 6) (.tmp 18) 3⟩]
def qHv:List KG:=[⟨none,.addr (some 19) (.tmp 6) 2⟩,⟨none,.ld (some 20) (.tmp 19) 1 false⟩,⟨none,.call (some 21) (.func 108) [(.tmp 20)]⟩,⟨none,.addr (some 22) (.tmp 6) 2⟩,⟨none,.st none (.tmp 22) (.tmp 21) 1⟩]
def qHw:List (Nat×Nat×KG):=[(0,0,⟨none,.ld (some 23) (.tmp 6) 3 true⟩),(1,0,⟨none,.mov (some 24) (.tmp 9)⟩),(2,0,⟨none,.nilc (some 25) (.tmp 24)⟩),(3,2,⟨none,.addr (some 26) (.tmp 25) 3⟩),(4,2004,⟨none,.ld (some 27) (.tmp 26) 1 false⟩),
 (5,1004,⟨none,.st none (.tmp 6) (.tmp 23) 3⟩),(6,0,⟨none,.st none (.tmp 7) (.tmp 27) 1⟩),(7,0,⟨none,.st none (.tmp 8) (.const (.int .i64 0)) 1⟩)]
def hDo:Nat→Option (List (Nat×Nat)):=fun r=>match r with | 5=>some [(0,0),(1,0),(2,0),(3,2),(4,2004),(5,1004),(6,0),(7,0)] | _=>none
def dfr (pv ps pe:Value):Deferred:={target:=.fn (.func 107) #[pv,ps,pe],args:=#[]}
abbrev sDo (D:St)(p:Prg)(F:Int)(v:Val)(n e:Int)(s:XS):St:=D++[.box (zM p),.box (zF v),.box [int n],.box [int e]]++eS p F s
def zLu (F:Int)(r:Val×XS):A:=if r.2.fail=0 then .tup [.agg (zF r.1),int (F-r.2.fuel),int 0] else .tup [.agg (zF vz),int 0,int r.2.fail]
def zZL:K:=G [kZ 4 [ki,ki,kl]] (G [M 5 0,J 6 1 31,L 7 2 1,kC 8 72 [(kt 5),(kt 6),(kt 7)],S 4 8 3] kr)
theorem qFS:zR Tryz.prog Tryz.f71.ntmps (Tryz.f71.body.getD .skip)=some zZL.erase:=by kernel_rfl
@[simp] theorem qMx:zA Tryz.prog 71=true:=by kernel_rfl
section
variable {p:Prg}{F:Int}{d:Dfn}{us:List Val}{s:XS}{r:Val×XS}
abbrev dA (d:Dfn)(us:List Val):St:=[.box (zG d),.box [.sl us.length (zK us)]]
abbrev qNO (G:Int):List (Nat×A):=[(1,int G),(2,.clo 71 [] [.ptr 0 0,.ptr 1 0]),(3,.ptr 2 0),(6,.ptr 3 0),(7,.ptr 4 0),(8,.ptr 5 0)]
abbrev zQ7:List (Nat×A):=[(2,.clo 71 [] [.ptr 0 0,.ptr 1 0]),(6,.ptr 3 0),(7,.ptr 4 0),(8,.ptr 5 0),(9,.ptr 6 0)]
theorem qAF {G:Int}(hG:F=max G 0)(hs:s.fuel=F)(hz:r.2.fail=0→qC r.1≤256)
 (hret:r.2.fail=0→Ret Tryz.prog 71 [.ptr 0 0,.ptr 1 0,.ptr 2 0] (eS p F s++dA d us) (.agg (zF r.1)) (eS p F r.2++dA d us))
 (hpan:r.2.fail≠0→yV Tryz.prog 71 [.ptr 0 0,.ptr 1 0,.ptr 2 0] (eS p F s++dA d us) fun o σ'=>o=.pan (zOo r.2.fail)∧σ'[1]?=some (.box (zG d))∧σ'[2]?=some (.box [.sl us.length (zK us)])) :
 Ret Tryz.prog 70 [.agg (zM p),int G,.clo 71 [] [.ptr 0 0,.ptr 1 0]] (dA d us) (zLu F r) (dA d us):=by
 have hP:=eP p;refine zHo (fun H L w vs hst hargs=>?_);have hL:L.length=2:=hst.len
 suffices h:∀R:Ending→World→Prop,(∀(v:Value) (σ':St) (H':Mem) (L':List LI) (w':World) (r':A),Rel H' L' r' v→Nxt H L w H' L' σ' w'→zFq 2 (zLu F r) (dA d us) (.ret r') σ'→R (.returned v) w')→CallsIn Fence.wide 0 Tryz.prog 70 vs.toArray w R from
  callsIn_wide.1 (h _ fun v σ' H' L' w' r' g1 g2 g3=>⟨.ret r',σ',H',L',⟨v,rfl,g1⟩,g2,g3⟩)
 intro R hR;refine callsIn_of_wp_defers (n:=0) (F:=Fence.wide) Tryz.func70 rfl trivial ?_;refine zHY (n0:=2) (hint:=hDo) (l:=qHt) (N:=28) (by kernel_rfl) (zIP hargs _) hst (Q:=fun x env τ=>x=.norm∧zA4 2 (qU (qNO G))
  (dA d us++[.box (zM p),.box (zF vz),.box [int 0],.box [int 0]]) env τ) ?_ (fun env' τ H' L' w' a' hd' he' hn' hq'=>?_) (fun x _ _ _ _ _ _ hx _ _ _ hq=>(hx hq.1).elim)
 ·unfold qHt;simp[hP];exact zO [0,1,2,3,4,5] 0 (by decide) (by simp) (by simp[zF,jO,qO,zV]) (by simp)
 obtain⟨H',L',hn',he'⟩:=hq'.2 _ _ _ _ _ _ _ _ hL hn' he';refine zHY (n0:=2) (hint:=hDo) (l:=qHu) (N:=28) (by kernel_rfl) he' hn'.st (Q:=fun x env τ=>x=.norm∧zA4 2 (qU zQ7) (sDo (dA d us) p F vz 0 0 s) env τ)
  ?_ (fun env' τ H1 L1 w' a' hd'' he1 hn1 hq1=>?_) (fun x _ _ _ _ _ _ hx _ _ _ hq=>(hx hq.1).elim)
 ·unfold qHu;simp[hP];exact zO [0,1,2,3,4,5,6] 0 (by decide) (by simp) (by simp[zF,jO,qO,zV,eS,hP,hs]; omega) (by simp)
 rw[hd']at hd'';obtain⟨H',L',hn',he'⟩:=hq1.2 _ _ _ _ _ _ _ _ hL (hn'.trans hn1) he1;have hmf:∀(fn:Fn) (first cap:Array Value) (w:World),(Instr.makeFunc fn first cap).run Tryz.prog w=.ok (.func fn first cap) w:=fun _ _ _ _=>rfl
 have hsz:28≤a'.tmps.size:=he'.1;have hsz':15<a'.tmps.size:=by omega
 refine wpIn_seq (wpIn_region_list ?_);simp only[wpListIn];simp[Region.wanted,Oper.wpIn,Oper.uponIn,go_sem,hmf,Exit.then,hsz',hd'',wpListIn];have h6:=he'.2 6;have h7:=he'.2 7;have h8:=he'.2 8;rw[jDg]at h6 h7 h8;have he3:∀X,zX H' L' 28 (qU zQ7) (a'.tmps.setIfInBounds 15 X):=fun X=>by
  have:=he'.put (a:=a') (d:=some 15) (fun x hx=>by cases hx; omega) (r:=.any) (v:=X) (by simp[Rel]);have h15:Env.put (qU zQ7) (some 15) .any=qU zQ7:=by
   funext t;simp only[Env.put];split
   ·rename_i ht; subst ht; rfl
   ·rfl
  rw[h15]at this;exact this
 generalize a'.tmps[6]?.getD undef=pv at *
 generalize a'.tmps[7]?.getD undef=ps at *
 generalize a'.tmps[8]?.getD undef=pe at *
 have he3:=he3 (Value.func (Fn.func 107) #[] #[pv,ps,pe]);generalize a'.tmps.setIfInBounds 15 (Value.func (Fn.func 107) #[] #[pv,ps,pe])=tm at *
 have idle:∀(pv ps pe:Value) (tm:Array Value) (w3:World) (v:Value),(results Tryz.f70 tm).run Tryz.prog w3=.ok v w3→R (.returned v) w3→LeavesIn Fence.wide 0 Tryz.prog Tryz.f70 tm R [dfr pv ps pe] .returning w3:=fun pv ps pe tm w3 v g1 g2=>by refine leavesIn_cons (f:=107) (args:=#[pv,ps,pe]) (by simp) (by simp[Fence.wide]) (by simp[go_sem]) (fun _ _=>trivial) ?_;refine(zS5 pv ps pe w3).mono ?_;rintro e u' w'' ⟨rfl,rfl,rfl⟩;exact⟨v,g1,g2⟩
 by_cases hf:r.2.fail=0
 ·refine zHY (n0:=2) (hint:=hDo) (l:=zXq) (N:=28) (by kernel_rfl) he3 hn'.st (Q:=fun x env τ=>x=.norm∧zA4 2 (qU zQ7) (sDo (dA d us) p F r.1 0 0 r.2) env τ) ?_
   (fun env' τ H1 L1 w1 a1 hd1 he1 hn1 hq1=>?_) (fun x _ _ _ _ _ _ hx _ _ _ hq=>(hx hq.1).elim)
  ·unfold zXq;simp[eS,hP];refine jJ (hret hf) [6,0,1] (by decide) (by simp[eS,hP]) (by simp) ?_;simp[eS,hP,zF];exact zO [0,1,2,3,4,5,6] 0 (by decide) (by simp) (by simp[zF]) (by simp)
  obtain⟨H',L',hn',he'⟩:=hq1.2 _ _ _ _ _ _ _ _ hL (hn'.trans hn1) he1;have hco:=zGP r.1.kids (by have:=hz hf; have:=zCt r.1; omega);refine zHY (n0:=2) (hint:=hDo) (l:=qHv) (N:=28) (by kernel_rfl) he' hn'.st (Q:=fun x env τ=>x=.norm∧zA4 2 (qU zQ7) (sDo (dA d us) p F r.1 0 0 r.2) env τ) ?_
   (fun env' τ H1 L1 w1 a1 hd2 he1 hn1 hq1=>?_) (fun x _ _ _ _ _ _ hx _ _ _ hq=>(hx hq.1).elim)
  ·unfold qHv;simp[eS,hP,zF];refine qD hco (by simp) (by simp) ?_;simp[eS,hP,zF];exact zO [0,1,2,3,4,5,6] 0 (by decide) (by simp) (by simp[zF]) (by simp)
  obtain⟨H',L',hn',he'⟩:=hq1.2 _ _ _ _ _ _ _ _ hL (hn'.trans hn1) he1;refine zVS (n0:=2) (hint:=hDo) (l:=qHw) (N:=28) (by kernel_rfl) he' hn'.st (Q:=fun x env τ=>x=.norm∧zA4 2 (qU zQ7) (sDo (dA d us) p F r.1 (F-r.2.fuel) 0 r.2) env τ) ?_
   (fun env' τ H1 L1 w1 a1 hd3 he1 hn1 hq1=>?_) (fun x _ _ _ _ _ _ hx _ _ _ hq=>(hx hq.1).elim)
  ·unfold qHw;simp[eS,hP,zF]
   try refine⟨(zGx (by decide) (by decide)).2 (by simp[zB7]),(zN5 (by decide) (by decide)).2 (by simp[zGn]),?_⟩
   exact zO [0,1,2,3,4,5,6] 0 (by decide) (by simp) (by simp[zF]) (by simp)
  obtain⟨H',L',hn',he'⟩:=hq1.2 _ _ _ _ _ _ _ _ hL (hn'.trans hn1) he1;have hds:a1.defers=[dfr pv ps pe]:=hd3.trans (hd2.trans hd1);refine wpIn_ret ?_;show LeavesIn Fence.wide 0 Tryz.prog Tryz.f70 a1.tmps R a1.defers .returning w1;rw[hds];obtain⟨v,g1,g2⟩:=zFV (P:=Tryz.prog) (fn:=Tryz.f70) (rs:=[.cell 6 3 true,.cell 7 1 false,.cell 8 1 false]) (by kernel_rfl) he' hn'.st (a:=.tup [.agg (zF r.1),int (F-r.2.fuel),int 0]) (by simp[zT5,zAR,zDH,ldA,zF]);exact idle pv ps pe _ _ v g1 (hR v _ _ _ _ _ g2 hn' (zH [0,1] 0 (by decide) (by simp) (by simp) (by simp[zLu,hf,zF])))
 ·refine zHY (n0:=2) (hint:=hDo) (l:=zXq) (N:=28) (by kernel_rfl) he3 hn'.st (Q:=fun x env τ=>x=.pan (zOo r.2.fail)∧(env 6=.ptr 3 0∧env 7=.ptr 4 0∧env 8=.ptr 5 0)∧τ[0]?=some (.box (zG d))∧τ[1]?=some (.box [.sl us.length (zK us)]) ∧
   τ[3]?=some (.box [int 0,int 0,.sl 0 []])∧τ[4]?=some (.box [int 0])∧τ[5]?=some (.box [int 0])) ?_ (fun env' τ H1 L1 w1 a1 hd1 he1 hn1 hq1=>by cases hq1.1) (fun x env' τ H1 L1 w1 a1 hx hd1 he1 hn1 hq1=>?_)
  ·unfold zXq;simp[eS,hP];refine zIq (C:=fun vs w R=>Calls Tryz.prog _ vs.toArray w R) (zGN Tryz.prog _) (hpan hf) [6,0,1] (by decide) (by simp[eS,hP]) (by simp) fun o σ1 h0=>?_
   obtain⟨rfl,g1,g2⟩:=h0;have hlen:∀n,3≤(σ1.map (zAQ [6,0,1] n)).length:=fun n=>by rw[jB5];exact(jA1.1 g2).1
   refine⟨rfl,⟨rfl,rfl,rfl⟩,?_,?_,?_,?_,?_⟩
   ·rw[zDj (js:=[6,0,1]) (hlen _) (by decide) (by simp) (i:=1) rfl,jCr];simp[g1,zAQ,vwO]
   ·rw[zDj (js:=[6,0,1]) (hlen _) (by decide) (by simp) (i:=2) rfl,jCr];simp[g2,zAQ,vwO]
   ·rw[zCA (by simp) (by simp)];simp[zF,jO,qO,zV]
   ·rw[zCA (by simp) (by simp)];simp
   ·rw[zCA (by simp) (by simp)];simp
  ·obtain⟨rfl,⟨e6,e7,e8⟩,t0,t1,t3,t4,t5⟩:=hq1;have l3:=(jA1.1 t3).1;have l4:=(jA1.1 t4).1;have l5:=(jA1.1 t5).1;have hds:a1.defers=[dfr pv ps pe]:=hd1;show LeavesIn Fence.wide 0 Tryz.prog Tryz.f70 a1.tmps R a1.defers (.panicking [{v:=zOo r.2.fail,recovered:=false}]) w1;rw[hds];refine leavesIn_cons (f:=107) (args:=#[pv,ps,pe]) (by simp) (by simp[Fence.wide]) (by simp[go_sem]) (fun _ _=>trivial) ?_;refine(zOm (vs:=[pv,ps,pe]) hn1.st (qH (Rel.mono hn1.step.hle hn1.lle _ h6) (qH (Rel.mono hn1.step.hle hn1.lle _ h7) (qH (Rel.mono hn1.step.hle hn1.lle _ h8) jF))) t3 t4 t5 (by decide) (by decide) (by decide)).mono ?_;rintro e u' w'' ⟨rfl,rfl,H2,L2,hn2⟩;obtain⟨v,g1,g2⟩:=zFV (P:=Tryz.prog) (fn:=Tryz.f70) (rs:=[.cell 6 3 true,.cell 7 1 false,.cell 8 1 false]) (by kernel_rfl) (he1.mono hn2.step.hle hn2.lle) hn2.st (a:=.tup [.agg [int 0,int 0,.nil],int 0,int r.2.fail])
    (by simp[zT5,zAR,zDH,ldA,e6,e7,e8,jD8,l3,l4,l5])
   exact⟨v,g1,hR v _ _ _ _ _ g2 (hn'.trans (hn1.trans hn2)) (zH [0,1] 0 (by decide) (by simp) (by simp[t0,t1]) (by simp[zLu,hf,zF,jO,qO,zV]))⟩
end
end Go.Proofs.YtdnelmeboihpkaaGreatDoor
namespace Go.Proofs.YtdnelmeboihpkaaGreatDoor
open Go.Abs
theorem zXT (p:Prg)(d:Dfn)(vs:List Val)(fuel:Int):Fl (zFo p d vs fuel).2:=zNR (zPb 2 fuel.toNat) d vs _ (.inl rfl)
end Go.Proofs.YtdnelmeboihpkaaGreatDoor
namespace Go.Proofs.YtdnelmeboihpkaaGreatDoor
open Go Go.Abs
section
variable {p:Prg}{F:Int}{d:Dfn}{us:List Val}{s:XS}{r:Val×XS}
theorem zU7 (hb:RP 72 [.ptr 0 0,.agg (zG d),.sl us.length (zK us)] p F s (.agg (zF r.1)) r.2)(hf:r.2.fail=0) :
 Ret Tryz.prog 71 [.ptr 0 0,.ptr 1 0,.ptr 2 0] (eS p F s++dA d us) (.agg (zF r.1)) (eS p F r.2++dA d us):=by
 have hP:=eP p;refine zI Tryz.func71 rfl qFS (rs:=[.cell 4 3 true]) (by kernel_rfl) ?_;unfold zZL;simp[eS,hP];refine jJ (hb.ret hf) [0] (by decide) (by simp[eS,hP]) (by simp) ?_;simp[eS,hP,zF];exact zH [0,1,2] 0 (by decide) (by simp) (by simp) (by simp[zF])
theorem zU6 (hb:RP 72 [.ptr 0 0,.agg (zG d),.sl us.length (zK us)] p F s (.agg (zF r.1)) r.2)(hf:r.2.fail≠0) :
 yV Tryz.prog 71 [.ptr 0 0,.ptr 1 0,.ptr 2 0] (eS p F s++dA d us) fun o σ'=>o=.pan (zOo r.2.fail)∧σ'[1]?=some (.box (zG d))∧σ'[2]?=some (.box [.sl us.length (zK us)]):=by
 have hP:=eP p;refine zFw Tryz.func71 rfl qFS (rs:=[.cell 4 3 true]) (by kernel_rfl) ?_;unfold zZL wpF;simp[eS,hP];refine zHx (hb.pan hf) [0] (by decide) (by simp[eS,hP]) (by simp) fun τ=>?_
 refine⟨rfl,?_,?_⟩
 ·rw[zCA (by simp) (by simp)]; rfl
 ·rw[zCA (by simp) (by simp)]; rfl
end
def qEF:K:=G [kO 2 0,kO 3 1,kZ 4 kz0,kMb 5 false] (G [J 9 2 2,J 10 3 3,kC 11 96 [(kt 9),(kt 10)],M 8 11,kE 12 8 0,kE 13 8 1,kZ 6 kz0,S 6 12 31,M 7 13] (Z (K.wk (K.dops [(0,0,J 14 6 31),(1,0,M 15 7),(2,0,M 16 15),(3,0,T 16 true (D 17 6 3)),(4,0,T 16 true (L 18 17 1)),(5,0,T 16 true (kQi 19 18 0 true)),(6,0,kPf 20 16 19),(7,0,M 21 20),(8,2,T 21 true (D 22 6 3)),(9,2,T 21 true (L 23 22 1)),(10,0,T 21 true (kQi 24 23 1 true)),(11,0,kPf 25 21 24),(12,0,S 4 14 31),(13,0,M 5 25)])) kr))
def qNG:Nat→Option (List (Nat×Nat)):=fun r=>match r with | 2=>some [(0,0),(1,0),(2,0),(3,0),(4,0),(5,0),(6,0),(7,0),(8,2),(9,2),(10,0),(11,0),(12,0),(13,0)] | _=>none
theorem qLL:qE Tryz.prog Tryz.f69.ntmps qNG (Tryz.f69.body.getD .skip)=some qEF.erase:=by kernel_rfl
@[simp] theorem qMu:zA Tryz.prog 69=true:=by kernel_rfl
def zL4 (p:Prg)(id:Id):A:=.tup [.agg (zG ((qT p.defs id).getD .zero)),bl ((qT p.defs id).isSome&&zGL ((qT p.defs id).getD .zero))]
theorem zU4 (p:Prg)(id:Id):Ret Tryz.prog 69 [.agg (zM p),.agg (zC id)] [] (zL4 p id) []:=by
 have hP:=eP p;have hdf:=zDn p id;unfold zL4;unfold zBL at hdf;generalize (qT p.defs id).getD .zero=d at *
 generalize (qT p.defs id).isSome=b at *
 refine qL Tryz.func69 rfl qLL (rs:=[.cell 4 31 true,.slot 5]) (by kernel_rfl) ?_;unfold qEF;simp[hP,zC];refine qD hdf (by simp[zM,zC]) (by simp) ?_;simp[zG];refine⟨_,_,zO (l:=[(4,.ptr 0 0),(6,.rptr (zG d)),(7,bl b)]) (σ':=[.box (kz0.map qS)]) [2] 1 (by simp) (by simp) (by simp) (by simp[zG]),?_⟩;cases b
 ·simp[zG];exact zB 0 (by simp[zG])
 ·by_cases h0:d.kind=0
  ·simp[zG,h0];exact zB 0 (by simp[zG,h0,zGL])
  ·by_cases h1:d.kind=1
   ·simp[zG,h0,h1];exact zB 0 (by simp[zG,h1,zGL])
   ·simp[zG,h0,h1];exact zB 0 (by simp[zG,h0,h1,zGL])
def zDY (p:Prg)(id:Id)(vs:List Val)(fuel:Int):A:=match qT p.defs id with
 | none=>.tup [.agg (zF vz),int 0,int 6]
 | some d=>if zGL d=false then .tup [.agg (zF vz),int 0,int 6] else if vs.length≠d.slots.length then .tup [.agg (zF vz),int 0,int 1]
  else if zBT p (d.slots.map Slt.typ) vs=false then .tup [.agg (zF vz),int 0,int 1] else zLu fuel (zEs p d vs fuel)
def zYr:K:=G [kO 4 0,kO 5 1,kO 6 2,kZ 8 [ki,ki,kl],kMi 9 0,kMi 10 0] (G [J 16 4 2,J 17 5 3,kC 18 69 [(kt 16),(kt 17)],M 15 18,kE 19 15 0,kE 20 15 1,kZ 11 kz0,S 11 19 31,M 12 20] (Z (G [M 21 12,kR 22 21] (Y 22 (G [kb 23 [ki,ki,kl] [],S 8 23 3,kMi 9 0,kMi 10 6] kr) ks)) (Z (G [L 24 6 1,kN 25 24,D 26 11 8,L 27 26 1,kN 28 27,kQ 29 25 28 true] (Y 29 (G [kb 30 [ki,ki,kl] [],S 8 30 3,kMi 9 0,kMi 10 1] kr) ks)) (Z (G [D 31 11 8,L 32 31 1,kN 33 32,kMi 34 0] (K.block 0 (K.loop (G [kB 35 34 33 .lss] (Z (Y 35 ks (K.exit 0)) (Z (K.block 1 (G [M 36 34,kX 37 32 34 11,J 38 37 11,kZ 14 kz5,M 13 36,S 14 38 11] (Z (K.dops [(0,0,J 39 4 2),(1,0,D 40 14 4),(2,0,J 41 40 5),(3,0,L 42 6 1),(4,0,M 43 13),(5,0,kX 44 42 43 3),(6,0,J 45 44 3),(7,0,kC 46 30 [(kt 39),(kt 41),(kt 45)]),(8,0,kR 47 46)]) (Y 47 (G [kb 48 [ki,ki,kl] [],S 8 48 3,kMi 9 0,kMi 10 1] kr) ks)))) (K.ops [kBi 49 34 1 .add,M 34 49]))))))) (G [J 50 4 2,M 51 3,⟨none,.clo (some 52) 71 [] [(kt 11),(kt 6)]⟩,kC 53 70 [(kt 50),(kt 51),(kt 52)],kE 54 53 0,kE 55 53 1,kE 56 53 2,S 8 54 3,M 9 55,M 10 56] kr)))))
theorem qFT:zR Tryz.prog Tryz.f29.ntmps (Tryz.f29.body.getD .skip)=some zYr.erase:=by kernel_rfl
@[simp] theorem qJ2:zA Tryz.prog 29=true:=by kernel_rfl
@[simp] theorem qKb:zA Tryz.prog 70=true:=by kernel_rfl
theorem zQj {p:Prg}{hs:List Hd}(hf:Fit p hs)(id:Id)(vs:List Val){gas fuel:Int}(hG:fuel=max gas 0)(hfu:fuel≤90000)(hz:∀v∈vs,qC v≤256∧zAx v≤24) :
 Ret Tryz.prog 29 [.agg (zM p),.agg (zC id),.sl vs.length (zK vs),int gas] [] (zDY p id vs fuel) []:=by
 have hP:=eP p;have hbo:=zU4 p id;refine qL Tryz.func29 rfl qFT (rs:=[.cell 8 3 true,.slot 9,.slot 10]) (by kernel_rfl) ?_;unfold zYr;simp[hP,zC];refine qD hbo (by simp[zM,zC]) (by simp[zL4]) ?_;cases hd:qT p.defs id with
 | none =>
  rw[show zDY p id vs fuel=.tup [.agg (zF vz),int 0,int 6] by simp[zDY,hd]];simp[zL4,hd,zG];exact zB 0 (by simp[zF,jO,qO,zV])
 | some d =>
 have hdm:=(zAz hd).1;obtain⟨s1,s6,_,snd,sty⟩:=hf.slots d hdm;cases hb:zGL d with
 | false =>
  rw[show zDY p id vs fuel=.tup [.agg (zF vz),int 0,int 6] by simp[zDY,hd,hb]];simp[zL4,hd,hb,zG];exact zB 0 (by simp[zF,jO,qO,zV])
 | true =>
 simp[zL4,hd,hb,zG];by_cases hl:vs.length=d.slots.length
 ·have hfit:=fun i (hi:i<d.slots.length)=>zMB p d.slots[i].typ (vs[i]'(by omega)) (hz _ (jA3 _)).1 (hz _ (jA3 _)).2
  simp[hl];intro hls;refine jM (S:=Nat) (fun i=>[(3,int gas),(4,.ptr 0 0),(6,.ptr 2 0),(8,.ptr 3 0),(11,.ptr 4 0),(32,.sl d.slots.length (yI d.slots)),(33,int d.slots.length),(34,int i)])
   (fun i=>[.box (zM p),.box (zC id),.box [.sl vs.length (zK vs)],.box [int 0,int 0,.nil],.box (zG d)]) (fun i=>i≤d.slots.length∧∀j (hj:j<i) (hj':j<d.slots.length),zB5 p d.slots[j].typ (vs[j]'(by omega))=true) (fun i=>d.slots.length-i) 0 ⟨by omega,fun j hj=>by omega⟩
   (zO [0,1,2,3,4] 0 (by decide) (by simp) (by simp[hP,zG,zC,hl]) (by simp)) ?_
  rintro i ⟨hi,hft⟩;by_cases hil:i<d.slots.length
  ·have hiv:i<vs.length:=by omega
   have hdr:=yC hil;have hdv:=jL hiv;have hfi:=hfit i hil;cases hfv:zB5 p d.slots[i].typ vs[i]with
   | false =>
    rw[hfv]at hfi;have hfl:zBT p (d.slots.map Slt.typ) vs=false:=by
     cases hq:zBT p (d.slots.map Slt.typ) vs with
     | false=>rfl
     | true =>
      have:=zGl hq i (by simpa using hil) hiv;rw[jBr,hfv]at this;cases this
    rw[show zDY p id vs fuel=.tup [.agg (zF vz),int 0,int 1] by simp[zDY,hd,hb,hl,hfl]];simp[hP,hil,hiv,hdr,hdv,yG,zG];refine qK hfi (by simp[hP,zU,zF]) (by simp) ?_;simp;exact zB 0 (by simp[zF,jO,qO,zV])
   | true =>
    rw[hfv]at hfi;simp[hP,hil,hiv,hdr,hdv,yG,zG];refine qK hfi (by simp[hP,zU,zF]) (by simp) ?_;simp;refine zP (i+1) ⟨hil,fun j hj hj'=>?_⟩ (by omega) (zO [0,1,2,3,4] 0 (by decide) (by simp) (by simp[hP,zG]) (by simp[qP hil hls]));by_cases hji:j=i
    ·subst hji; exact hfv
    ·exact hft j (by omega) hj'
  ·have hie:i=d.slots.length:=by omega
   subst hie;have hfl:zBT p (d.slots.map Slt.typ) vs=true:=zLO (by simpa using hl) fun j h1 h2=>by rw[jBr];exact hft j (by simpa using h1) (by simpa using h1)
   rw[show zDY p id vs fuel=zLu fuel (zEs p d vs fuel) by simp[zDY,hd,hb,hl,hfl]];have hty:TyL p (d.slots.map Slt.typ) vs:=TyL.of (by simpa using hl) fun j hj=>by rw[jBr];exact zRC hf (sty _ (jA3 _)) _ (hft j (by omega) (by omega))
   have hV:=EnvT.args hty fun v hv=>(hz v hv).1
   have hIh:=zR6 (F:=fuel) hf.bods (zSq hf) (by omega) fuel.toNat (by omega);have hca:=zOk hIh d vs hl s6 (s:=⟨fuel,0,zQP p d.slots [],[]⟩) rfl (fun _=>⟨_,_,hf.bods _ d hd hb,hV,zR5 snd vs hl⟩) ⟨by simp only; omega,by simp only; omega⟩;change RP _ _ _ _ _ (.agg (zF (zEs p d vs fuel).1)) (zEs p d vs fuel).2 at hca;have hsz:(zEs p d vs fuel).2.fail=0→qC (zEs p d vs fuel).1≤256:=fun h0=>by
    have he:zEs p d vs fuel=zAv p 1 fuel.toNat d.body (zC6 d.slots vs) ⟨fuel,0,zQP p d.slots []++[d.id],[]⟩:=by unfold zEs zB1; simp
    rw[he]at h0 ⊢;exact(hIh.snd _ _ _ _ _ (hf.bods _ d hd hb) hV h0).2
   generalize zEs p d vs fuel=r at *
   have hdo:=qAF (d:=d) (us:=vs) hG rfl hsz (zU7 hca) (zU6 hca);simp[hP];refine jJ hdo [4,2] (by decide) (by simp[zG]) (by simp[hP]) ?_;by_cases h0:r.2.fail=0
   ·simp[zLu,h0,zF];exact zB 0 (by simp)
   ·simp[zLu,h0,zF];exact zB 0 (by simp)
 ·rw[show zDY p id vs fuel=.tup [.agg (zF vz),int 0,int 1] by simp[zDY,hd,hb,hl]];have hl':¬((vs.length:Int)=d.slots.length):=by omega
  simp[hl']
  intros
  exact zB 0 (by simp[zF,jO,qO,zV])
end Go.Proofs.YtdnelmeboihpkaaGreatDoor
namespace Go.Proofs.YtdnelmeboihpkaaGreatDoor
open Go.Abs
def SE (s s':XS):Prop:=s.fuel=s'.fuel∧s.fail=s'.fail
def EqF (r r':Val×XS):Prop:=SE r.2 r'.2∧(r.2.fail=0→r.1=r'.1)
theorem SE.rfl' (s:XS):SE s s:=⟨rfl,rfl⟩
theorem zFA {s s':XS}(h:SE s s')(v:Val):EqF (v,s) (v,s'):=⟨h,fun _=>rfl⟩
section
variable {p:Prg}{f g:Evl}
theorem zNL (hf:zDX f)(h:∀e V s s',SE s s'→EqF (f e V s) (g e V s'))(V:List EVar):∀(l:List Exp) (s s':XS),SE s s'→SE (jE f V l s).2 (jE g V l s').2∧((jE f V l s).2.fail=0→(jE f V l s).1=(jE g V l s').1)
 | [],s,s',hs=>⟨hs,fun _=>rfl⟩
 | e::l,s,s',hs=>by have h1:=h e V s s' hs;have h2:=zNL hf h V l _ _ h1.1;refine⟨by simp only[jE]; exact h2.1,fun h0=>?_⟩;have h3:=zRv hf h0;simp only[jE]at h0 ⊢;rw[←h2.2 h0,h1.2 h3]
theorem zLQ (hf:zDX f)(hg:zDX g)(h:∀e V s s',SE s s'→EqF (f e V s) (g e V s'))(V:List EVar)(i:Id)(b:Exp):∀(l:List Val) (r r':Val×XS),EqF r r'→EqF (yJ f V i b l r) (yJ g V i b l r')
 | [],r,r',hr=>hr
 | x::l,r,r',hr=>by
  simp only[yJ];refine zLQ hf hg h V i b l _ _ ?_;by_cases h0:r.2.fail=0
  ·rw[hr.2 h0]; exact h _ _ _ _ hr.1
  ·rw[hf _ _ _ h0,hg _ _ _ (by rw[←hr.1.2]; exact h0)];exact zFA hr.1 _
theorem zWt {c c':Bool}{s s':XS}{v v':Val}(hs:SE s s')(h:s.fail=0→v=v'):EqF (zf c s v,s) (zf c' s' v',s'):=by refine⟨hs,fun hf=>?_⟩;simp only at hf ⊢;rw[zFj hf,zFj (by rw[←hs.2]; exact hf),h hf]
theorem zIo (h:∀e V s s',SE s s'→EqF (f e V s) (g e V s'))(d:Dfn){vs vs':List Val}{s s':XS}(hs:SE s s')(hv:s.fail=0→vs=vs'):EqF (zB1 f d vs s) (zB1 g d vs' s'):=by
 unfold zB1;by_cases hf:s.fail=0
 ·rw[if_neg (by simp[hf]),if_neg (by simp[←hs.2,hf]),hv hf];exact h _ _ _ _ hs
 ·rw[if_pos hf,if_pos (by rw[←hs.2]; exact hf)];exact zFA hs _
theorem zNS (hf:zDX f)(hg:zDX g)(h:∀e V s s',SE s s'→EqF (f e V s) (g e V s'))(e:Exp)(V:List EVar){s s':XS}(hs:SE s s'):EqF (zAt f e V s) (zAt g e V s'):=by
 unfold zAt;have h0:=h (e.kids.headD .zero) V s s' hs;generalize f (e.kids.headD .zero) V s=r at *
 generalize g (e.kids.headD .zero) V s'=r' at *
 obtain⟨v,t⟩:=r;obtain⟨v',t'⟩:=r';by_cases hz:t.fail=0
 ·have hz':t'.fail=0:=h0.1.2.symm.trans hz;have hv:v=v':=h0.2 hz;subst hv;simp only[hz,hz',ne_eq,not_true,if_false]
  repeat' split
  all_goals first
   | exact zFA h0.1 _
   | exact h _ _ _ _ h0.1
   | exact zLQ hf hg h _ _ _ _ _ _ (h _ _ _ _ h0.1)
 ·rw[if_pos hz,if_pos (by simpa using fun e:t'.fail=0=>hz (h0.1.2.trans e))];exact zFA h0.1 _
theorem zRi (hf:zDX f)(hg:zDX g)(h:∀e V s s',SE s s'→EqF (f e V s) (g e V s'))(a b:Nat)(e:Exp)(V:List EVar){s s':XS}(hs:SE s s'):EqF (qW p a f e V s) (qW p b g e V s'):=by
 unfold qW;obtain⟨h1,h2⟩:=zNL hf h V e.kids s s' hs;generalize jE f V e.kids s=r at *
 generalize jE g V e.kids s'=r' at *
 repeat' split
 all_goals first
  | exact zFA hs _
  | exact zNS hf hg h _ _ hs
  | exact zIo h _ h1 h2
  | exact zWt h1 fun hz=>by rw[h2 hz]
theorem zUG (a b:Nat){r r':Val×XS}(h:EqF r r'):EqF (zOn a r) (zOn b r'):=by
 unfold zOn;have e:SE (zCX r) (zCX r')∧((zCX r).fail=0→r.1=r'.1):=by
  unfold zCX;by_cases hf:r.2.fail=0
  ·have hf':=h.1.2.symm.trans hf;rw[←h.2 hf];by_cases hb:zJv r.1
   ·rw[if_pos ⟨hf,hb⟩,if_pos ⟨hf',hb⟩];exact⟨⟨h.1.1,rfl⟩,fun _=>rfl⟩
   ·rw[if_neg fun k=>hb k.2,if_neg fun k=>hb k.2];exact⟨h.1,fun _=>rfl⟩
  ·rw[if_neg fun k=>hf k.1,if_neg fun k=>hf (h.1.2.trans k.1)];exact⟨h.1,h.2⟩
 exact zWt e.1 e.2
theorem zI9 (a b:Nat):∀(m:Nat) (e:Exp) (V:List EVar) (s s':XS),SE s s'→EqF (zAv p a m e V s) (zAv p b m e V s')
 | 0,e,V,s,s',hs=>by
  rw[zAv,zAv,hs.2];split
  ·exact zFA hs _
  ·exact zFA (s:={s with fail:=zF5}) (s':={s' with fail:=zF5}) ⟨hs.1,rfl⟩ _
 | m+1,e,V,s,s',hs=>by
  rw[zAv,zAv,hs.2,hs.1];split
  ·exact zFA hs _
  ·split
   ·exact⟨⟨rfl,rfl⟩,fun _=>rfl⟩
   ·exact zUG a b (zRi (zDu p a m) (zDu p b m) (zI9 a b m) a b e V ⟨by simp only[zDK]; rw[hs.1],hs.2⟩)
end
theorem zWC {p:Prg}{hs:List Hd}(hf:Fit p hs)(id:Id)(vs:List Val)(gas:Int):zDY p id vs (max gas 0)=zED (yU p id vs gas):=by
 unfold zDY yU;cases hd:qT p.defs id with
 | none=>rfl
 | some d =>
  have hk:=hf.kinds d (zAz hd).1;have hbb:zGL d=zPO d.kind:=by
   have h6:d.kind=0∨d.kind=1∨d.kind=2∨d.kind=3∨d.kind=4∨d.kind=5:=by omega
   unfold zGL zPO;rcases h6 with h | h | h | h | h | h<;>rw[h]<;>rfl
  simp only[hbb];by_cases h1:zPO d.kind=false
  ·rw[if_pos h1,if_pos h1]; rfl
  rw[if_neg h1,if_neg h1];by_cases h2:vs.length≠d.slots.length
  ·rw[if_pos h2,if_pos h2]; rfl
  rw[if_neg h2,if_neg h2];by_cases h3:zBT p (d.slots.map Slt.typ) vs=false
  ·rw[if_pos h3,if_pos h3]; rfl
  rw[if_neg h3,if_neg h3];have hn:(max gas 0).toNat=gas.toNat:=by omega
  by_cases hg:0≤gas
  ·have he:EqF (zEs p d vs (max gas 0)) (zFo p d vs gas):=by unfold zEs zFo;rw[hn];exact zIo (zI9 1 2 gas.toNat) d ⟨by simp only; omega,rfl⟩ fun _=>rfl
   obtain⟨⟨e1,e2⟩,e3⟩:=he;unfold zLu;by_cases h0:(zEs p d vs (max gas 0)).2.fail=0
   ·rw[if_pos h0,if_neg (by simp[←e2,h0])];simp only[zED];rw[e3 h0,e1,show max gas 0=gas by omega]
   ·rw[if_neg h0,if_pos (by rw[←e2]; exact h0),e2];rfl
  ·have hz:gas.toNat=0:=by omega
   have e1:(zEs p d vs (max gas 0)).2.fail=zF5:=by unfold zEs zB1; rw[hn,hz]; simp[zAv]
   have e2:(zFo p d vs gas).2.fail=zF5:=by unfold zFo zB1; rw[hz]; simp[zAv]
   unfold zLu;rw[if_neg (by rw[e1]; decide),if_pos (by rw[e2]; decide),e1,e2];rfl
theorem zQA {r:Val×XS}(h:(zCX r).fail=0):¬zJv r.1∧r.2.fail=0:=by
 unfold zCX at h;split at h
 ·cases h
 ·rename_i h';exact⟨fun hb=>h' ⟨h,hb⟩,h⟩
theorem zTo (p:Prg)(fl n:Nat)(e:Exp)(V:List EVar)(s:XS)(h:(zAv p fl n e V s).2.fail=0):¬zJv (zAv p fl n e V s).1:=by
 cases n with
 | zero =>
  rw[zAv]at h;split at h
  ·rename_i h'; exact(h' h).elim
  ·cases h
 | succ n =>
  rw[zAv]at h⊢;split at h
  ·rename_i h'; exact(h' h).elim
  ·rename_i h0;rw[if_neg h0];split at h
   ·cases h
   ·rename_i h1;rw[if_neg h1];have:=zQA (show (zCX _).fail=0 from h);show ¬zJv (zf (fl==2) (zCX _) _);rw[zFj (show (zCX _).fail=0 from h)];exact this.1
section
variable {p:Prg}{hs:List Hd}(hf:Fit p hs)
include hf
theorem zP7 (id:Id)(vs:List Val)(hz:∀v∈vs,qC v≤256∧zAx v≤24)(fuel:Int) :
 (qC (yU p id vs fuel).1≤256∧zAx (yU p id vs fuel).1≤24)∧0≤(yU p id vs fuel).2.1∧(yU p id vs fuel).2.1≤max fuel 0∧0≤(yU p id vs fuel).2.2∧(yU p id vs fuel).2.2≤100:=by
 have hvz:qC vz≤256∧zAx vz≤24:=by decide
 unfold yU;split
 ·exact⟨hvz,by simp only; omega⟩
 ·rename_i d hd;by_cases h1:zPO d.kind=false
  ·rw[if_pos h1]; exact⟨hvz,by simp only; omega⟩
  rw[if_neg h1];by_cases h2:vs.length≠d.slots.length
  ·rw[if_pos h2]; exact⟨hvz,by simp only; omega⟩
  rw[if_neg h2];by_cases h3:zBT p (d.slots.map Slt.typ) vs=false
  ·rw[if_pos h3]; exact⟨hvz,by simp only; omega⟩
  rw[if_neg h3];have hfl:=zXT p d vs fuel;unfold Fl at hfl;by_cases h0:(zFo p d vs fuel).2.fail=0
  ·rw[if_neg (by simp[h0])];have hg:0≤fuel:=Int.not_lt.1 fun hn=>by
    have e2:(zFo p d vs fuel).2.fail=zF5:=by unfold zFo zB1; rw[show fuel.toNat=0 by omega]; simp[zAv]
    rw[h0]at e2;cases e2
   have he:EqF (zEs p d vs fuel) (zFo p d vs fuel):=by unfold zEs zFo;exact zIo (zI9 1 2 fuel.toNat) d ⟨rfl,rfl⟩ fun _=>rfl
   have hc:=zVP p d vs fuel;have hu:=zXI p d vs fuel hg;rw[he.1.1]at hc hu;obtain⟨_,_,_,snd,sty⟩:=hf.slots d (zAz hd).1;have hft:zBT p (d.slots.map Slt.typ) vs=true:=by simpa using h3
   have hl:vs.length=d.slots.length:=by omega
   have hty:TyL p (d.slots.map Slt.typ) vs:=TyL.of (by simpa using hl) fun j hj=>by
    rw[jBr];refine zRC hf (sty _ (jA3 _)) _ ?_;have:=zGl hft j (by simp; omega) (by omega)
    rwa [jBr]at this
   have hbB:zGL d=true:=zSp (by simpa using h1);have hrun:zFo p d vs fuel=zAv p 2 fuel.toNat d.body (zC6 d.slots vs) ⟨fuel,0,[d.id],[]⟩:=by unfold zFo zB1; simp
   have hsz:=zHO hf.bods 2 fuel.toNat d.body _ _ ⟨fuel,0,[d.id],[]⟩ d.res (hf.bods _ d hd hbB) (EnvT.args hty fun v hv=>(hz v hv).1) (by rw[←hrun]; exact h0);have hbig:=zTo p 2 fuel.toNat d.body (zC6 d.slots vs) ⟨fuel,0,[d.id],[]⟩ (by rw[←hrun]; exact h0);rw[←hrun]at hsz hbig;have hdp:zAx (zFo p d vs fuel).1≤24:=by have:=zJV _ (by omega:qC (zFo p d vs fuel).1≤100000000);unfold zJv at hbig;omega
   exact⟨⟨hsz.2,hdp⟩,by simp only; omega⟩
  ·rw[if_pos h0];refine⟨hvz,?_⟩;simp only;omega
end
def jG (p:Prg):List Id→Val→Int→Val×Int×Int
 | [],v,_=>(v,0,0)
 | id::l,v,fuel=>if (yU p id [v] fuel).2.2≠0 then (vz,0,(yU p id [v] fuel).2.2)
  else if (jG p l (yU p id [v] fuel).1 (fuel-(yU p id [v] fuel).2.1)).2.2≠0 then (vz,0,(jG p l (yU p id [v] fuel).1 (fuel-(yU p id [v] fuel).2.1)).2.2)
  else ((jG p l (yU p id [v] fuel).1 (fuel-(yU p id [v] fuel).2.1)).1,(yU p id [v] fuel).2.1+(jG p l (yU p id [v] fuel).1 (fuel-(yU p id [v] fuel).2.1)).2.1,0)
section
variable {p:Prg}{hs:List Hd}(hf:Fit p hs)
include hf
end
def zJx (p:Prg)(l:List Id)(v:Val)(steps fuel:Int):Val×Int×Int :=
 if (jG p l v (fuel-steps)).2.2≠0 then (vz,0,(jG p l v (fuel-steps)).2.2) else ((jG p l v (fuel-steps)).1,steps+(jG p l v (fuel-steps)).2.1,0)
theorem zVj (p:Prg)(v:Val)(steps fuel:Int):zJx p [] v steps fuel=(v,steps,0):=by simp[zJx,jG]
theorem zVi {p:Prg}{id:Id}{l:List Id}{v:Val}{steps fuel:Int}(h:(yU p id [v] (fuel-steps)).2.2≠0):zJx p (id::l) v steps fuel=(vz,0,(yU p id [v] (fuel-steps)).2.2):=by simp[zJx,jG,h]
theorem zSP {p:Prg}{id:Id}{l:List Id}{v:Val}{steps fuel:Int}(h:(yU p id [v] (fuel-steps)).2.2=0) :
 zJx p (id::l) v steps fuel=zJx p l (yU p id [v] (fuel-steps)).1 (steps+(yU p id [v] (fuel-steps)).2.1) fuel:=by
 unfold zJx;rw[show fuel-(steps+(yU p id [v] (fuel-steps)).2.1)=fuel-steps-(yU p id [v] (fuel-steps)).2.1 by omega];simp only[jG,h,ne_eq,not_true,if_false];by_cases h2:(jG p l (yU p id [v] (fuel-steps)).1 (fuel-steps-(yU p id [v] (fuel-steps)).2.1)).2.2=0
 ·simp[h2,Int.add_assoc]
 ·simp[h2]
theorem zSQ (p:Prg)(l:List Id)(v:Val)(fuel:Int):zJx p l v 0 fuel=if (jG p l v fuel).2.2≠0 then (vz,0,(jG p l v fuel).2.2) else ((jG p l v fuel).1,(jG p l v fuel).2.1,0):=by simp[zJx]
theorem zQp (p:Prg):∀(l:List Id) (v:Val) (fuel:Int),(jG p l v fuel).2.2≠0→(jG p l v fuel).1=vz∧(jG p l v fuel).2.1=0
 | [],v,fuel,h=>(h rfl).elim
 | id::l,v,fuel,h=>by
  unfold jG at h⊢;split
  ·exact⟨rfl,rfl⟩
  ·rename_i h1;rw[if_neg h1]at h;split
   ·exact⟨rfl,rfl⟩
   ·rename_i h2;rw[if_neg h2]at h;exact(h rfl).elim
theorem zQy (p:Prg)(l:List Id)(v:Val)(fuel:Int):zJx p l v 0 fuel=jG p l v fuel:=by
 rw[zSQ];by_cases h:(jG p l v fuel).2.2=0
 ·rw[if_neg (by simp[h])];exact Prod.ext rfl (Prod.ext rfl h.symm)
 ·rw[if_pos h];have:=zQp p l v fuel h;exact Prod.ext this.1.symm (Prod.ext this.2.symm rfl)
def zGI (p:Prg)(l:List Id)(v:Val)(fuel:Int):Val×Int×Int :=
 if l=[] then (v,0,0)
 else if zHS p l=false then (vz,0,1)
 else match yH p (l.getD 0 .zero)with
  | some a=>if zB5 p a.1 v=false then (vz,0,1) else jG p l v fuel
  | none=>(vz,0,1)
def jT (d:Dfn):Option Edg:=if d.kind=5 then (match d.slots with | [s]=>if s.typ.k=3∧d.res.k=3 then some ⟨d.id,s.typ.id,d.res.id⟩ else none | _=>none) else none
theorem zEb {d:Dfn}{e:Edg}(h:jT d=some e):e.id=d.id:=by
 unfold jT at h;split at h
 ·split at h
  ·split at h
   ·cases h; rfl
   ·cases h
  ·cases h
 ·cases h
def zOg (p:Prg):List Id:=zVT ((p.defs.filter fun d=>(yH p d.id).isSome).map (·.id))
def yT (p:Prg):List Edg:=(zOg p).filterMap fun x=>(qT p.defs x).bind jT
theorem zKb {p:Prg}{hs:List Hd}(hf:Fit p hs)(e:Edg):e∈yT p↔∃d∈p.defs,jT d=some e:=by
 unfold yT zOg;rw[jCc];constructor
 ·rintro⟨x,_,h⟩;rw[jA4]at h;obtain⟨d,h1,h2⟩:=h;exact⟨d,(zAz h1).1,h2⟩
 ·rintro⟨d,hd,he⟩;obtain⟨i,hi,rfl⟩:=jB4 hd;have hfd:=zGk hf.nd hi;refine⟨p.defs[i].id,?_,by rw[hfd]; exact he⟩;rw[zPy,jAm];refine⟨p.defs[i],List.mem_filter.2 ⟨hd,?_⟩,rfl⟩;unfold yH;rw[hfd];unfold jT at he;simp only;split at he
  ·rename_i hk;rw[if_pos hk];split at he
   ·rename_i s hs;rw[hs]; rfl
   ·cases he
  ·cases he
theorem zDQ {p:Prg}:∀(l:List Id),((l.filterMap fun x=>(qT p.defs x).bind jT).map (·.id)).Sublist l
 | []=>by simp
 | x::l=>by
  rw[List.filterMap_cons];cases h:(qT p.defs x).bind jT with
  | none=>exact(zDQ l).cons _
  | some e =>
   rw[jA4]at h;obtain⟨d,h1,h2⟩:=h;have:=zEb h2;rw[(zAz h1).2]at this;simp only[jA9,this];exact(zDQ l).cons_cons _
theorem zLD (p:Prg):SS ((yT p).map (·.id)):=(zSc _).sublist (zDQ _)
theorem zMQ {p:Prg}{hs:List Hd}(hf:Fit p hs){S:List Edg}(h1:SS (S.map (·.id)))(h2:∀e,e∈S↔∃d∈p.defs,jT d=some e):S=yT p:=by
 have hid:S.map (·.id)=(yT p).map (·.id):=h1.unique (zLD p) fun x=>by simp only[jAm,h2,zKb hf]
 have hinj:∀a b:Edg,(∃d∈p.defs,jT d=some a)→(∃d∈p.defs,jT d=some b)→a.id=b.id→a=b:=by rintro a b ⟨d,hd,ha⟩ ⟨d',hd',hb⟩ e;rw[zEb ha,zEb hb]at e;obtain⟨i,hi,rfl⟩:=jB4 hd;obtain⟨j,hj,rfl⟩:=jB4 hd';have hi':=zGk hf.nd hi;have hj':=zGk hf.nd hj;rw[e,hj']at hi';rw[←jB1 hi',hb]at ha;exact(jB1 ha).symm
 have key:∀(A B:List Edg),(∀e∈A,∃d∈p.defs,jT d=some e)→(∀e∈B,∃d∈p.defs,jT d=some e)→A.map (·.id)=B.map (·.id)→A=B:=by
  intro A;induction A with
  | nil=>intro B _ _ h; cases B with
   | nil=>rfl
   | cons b B=>simp at h
  | cons a A ih =>
   intro B hA hB h;cases B with
   | nil=>simp at h
   | cons b B =>
    simp only[jA9,jB]at h;rw[hinj a b (hA a (by simp)) (hB b (by simp)) h.1,ih B (fun e he=>hA e (by simp[he])) (fun e he=>hB e (by simp[he])) h.2]
 exact key _ _ (fun e he=>(h2 e).1 he) (fun e he=>(zKb hf e).1 he) hid
def zR2 (p:Prg)(x:Id):Option Edg:=match yH p x with
 | some (a,b)=>if a.k=3∧b.k=3 then some ⟨x,a.id,b.id⟩ else none
 | none=>none
theorem zU8 (p:Prg)(x:Id):(qT p.defs x).bind jT=zR2 p x:=by
 unfold zR2 yH;cases h:qT p.defs x with
 | none=>rfl
 | some d =>
  have hx:=(zAz h).2;simp only[Option.bind_some,jT];split
  ·split
   ·rename_i s hs;simp only[hx,hs]
   ·rename_i hs;split
    ·rename_i hs';split at hs'
     ·rename_i s e; exact(hs s e).elim
     ·cases hs'
    ·rfl
  ·rfl
theorem zS4 (p:Prg):yT p=(zOg p).filterMap (zR2 p):=by
 unfold yT
 congr 1
 funext x;exact zU8 p x
def zSY (n:Nat):Nat:=[1,1,2,3,4,6,9,12].getD n 0
theorem zSZ:∀r,r≤7→∀o,o≤r→o*zSY (r-o)≤zSY r:=by decide
theorem zKq:∀r,r≤7→1≤zSY r∧zSY r≤64:=by decide
def zFJ (L:List Edg)(old:List Id):Nat:=(L.filter fun e=>decide (e.fro∉old)).length
theorem zKw (old:List Id)(a:Id)(h:a∉old):∀L:List Edg,zFJ L old=zFJ L (old++[a])+(L.filter fun e=>decide (e.fro=a)).length
 | []=>by simp[zFJ]
 | e::L=>by
  have ih:=zKw old a h L;unfold zFJ at ih ⊢;simp only[List.filter_cons];by_cases h1:e.fro=a
  ·have e1:decide (e.fro∉old)=true:=decide_eq_true (by rw[h1]; exact h);have e2:decide (e.fro∉old++[a])=false:=decide_eq_false (by simp[h1]);have e3:decide (e.fro=a)=true:=decide_eq_true h1;rw[e1,e2,e3];simp only[if_true,jAg,if_false,jAl];omega
  ·have e3:decide (e.fro=a)=false:=decide_eq_false h1;by_cases h2:e.fro∈old
   ·have e1:decide (e.fro∉old)=false:=decide_eq_false (by simp[h2]);have e2:decide (e.fro∉old++[a])=false:=decide_eq_false (by simp[h2]);rw[e1,e2,e3];simp only[jAg,if_false];exact ih
   ·have e1:decide (e.fro∉old)=true:=decide_eq_true h2;have e2:decide (e.fro∉old++[a])=true:=decide_eq_true (by simp[h1,h2]);rw[e1,e2,e3];simp only[if_true,jAg,if_false,jAl];omega
theorem zOt {α β : Type}(f : α→List β)(q : α→Bool)(B:Nat):∀L:List α,(∀x∈L,(f x).length≤if q x then B else 0)→(L.flatMap f).length≤(L.filter q).length*B
 | [],_=>by simp
 | x::L,h=>by
  have ih:=zOt f q B L fun y hy=>h y (by simp[hy])
  have hx:=h x (by simp);rw[jBc,jA5,List.filter_cons];cases hq:q x
  ·rw[hq]at hx;simp only[jAg,if_false]at hx ⊢;omega
  ·rw[hq]at hx;simp only[if_true]at hx ⊢;rw[jAl,jBh];omega
theorem zLG {L:List Edg}{to:Id}:∀(n:Nat) (at_:Id) (old:List Id),at_∉old→zFJ L old≤7→(zAs L to n at_ (old++[at_])).length≤zSY (zFJ L old)
 | 0,at_,old,_,h7=>by have:=zKq _ h7;unfold zAs;split<;>simp<;>omega
 | n+1,at_,old,ha,h7=>by
  have hp:=zKq _ h7;unfold zAs;split
  ·simp; omega
  ·have hst:=zKw old at_ ha L
   have hg:=zSZ _ h7 (L.filter fun e=>decide (e.fro=at_)).length (by omega);have hsub:zFJ L old-(L.filter fun e=>decide (e.fro=at_)).length=zFJ L (old++[at_]):=by omega
   rw[hsub]at hg;refine jBs (zOt _ (fun e=>decide (e.fro=at_)) (zSY (zFJ L (old++[at_]))) L fun e he=>?_) hg;split
   ·rename_i hc;have:=zLG (L:=L) (to:=to) n e.to (old++[at_]) hc.2 (by omega)
    simpa [hc.1] using this
   ·simp
theorem zTu {p:Prg}(h:(yT p).length≤7)(fro to:Id)(n:Nat):(zAs (yT p) to n fro [fro]).length≤64:=by
 have hl:zFJ (yT p) []≤7:=by have:=jDd (fun e:Edg=>decide (e.fro∉([]:List Id))) (yT p);unfold zFJ; omega
 have:=zLG (L:=yT p) (to:=to) n fro [] (by simp) hl;have h2:=(zKq _ hl).2;simp only[jBj]at this;omega
def zYi:K:=G [kO 4 0,kO 6 2,kZ 8 [ki,ki,kl],kMi 9 0,kMi 10 0] (G [kMi 11 0] (Z (G [M 17 1,kN 18 17,kMi 19 0] (K.block 0 (K.loop (G [kB 20 19 18 .lss] (Z (Y 20 ks (K.exit 0)) (Z (K.block 1 (G [kX 21 17 19 3,J 22 21 3,kZ 13 [ki,ki,ki],S 13 22 3] (G [J 24 4 2,J 25 13 3,J 26 6 3,kd 27 46 3 1 [ki,ki,kl] [(0,3,(kt 26))],M 28 3,M 29 11,kB 30 28 29 .sub,kC 31 29 [(kt 24),(kt 25),(kt 27),(kt 30)],M 23 31,kE 32 23 0,kE 33 23 1,kE 34 23 2,kZ 14 [ki,ki,kl],S 14 32 3,M 15 33,M 16 34] (Z (G [M 35 16,kQi 36 35 0 true] (Y 36 (G [kb 37 [ki,ki,kl] [],M 38 16,S 8 37 3,kMi 9 0,M 10 38] kr) ks)) (G [J 39 14 3,S 6 39 3] (K.ops [M 40 11,M 41 15,kB 42 40 41 .add,M 11 42])))))) (K.ops [kBi 43 19 1 .add,M 19 43]))))))) (G [J 44 6 3,M 45 11,S 8 44 3,M 9 45,kMi 10 0] kr)))
theorem qFG:zR Tryz.prog Tryz.f45.ntmps (Tryz.f45.body.getD .skip)=some zYi.erase:=by kernel_rfl
@[simp] theorem qJv:zA Tryz.prog 45=true:=by kernel_rfl
def zYc:K:=G [kO 4 0,kO 6 2,kZ 8 [ki,ki,kl],kMi 9 0,kMi 10 0] (Z (G [M 14 1,kN 15 14,kQi 16 15 0 false] (Y 16 (G [J 17 6 3,S 8 17 3,kMi 9 0,kMi 10 0] kr) ks)) (G [J 19 4 2,M 20 1,kC 21 44 [(kt 19),(kt 20)],M 18 21,kE 22 18 0,kE 23 18 1,kE 24 18 2,kZ 11 kz2,kZ 12 kz2,S 11 22 5,S 12 23 5,M 13 24] (Z (G [M 25 13,kR 26 25,M 27 26,T 27 false (J 28 4 2),T 27 false (J 29 11 5),T 27 false (J 30 6 3),T 27 false (kC 31 30 [(kt 28),(kt 29),(kt 30)]),T 27 false (kR 32 31),kPt 33 27 32] (Y 33 (G [kb 34 [ki,ki,kl] [],S 8 34 3,kMi 9 0,kMi 10 1] kr) ks)) (G [J 35 4 2,M 36 1,J 37 6 3,M 38 3,kC 39 45 [(kt 35),(kt 36),(kt 37),(kt 38)],kE 40 39 0,kE 41 39 1,kE 42 39 2,S 8 40 3,M 9 41,M 10 42] kr))))
theorem qFA:zR Tryz.prog Tryz.f16.ntmps (Tryz.f16.body.getD .skip)=some zYc.erase:=by kernel_rfl
@[simp] theorem qJp:zA Tryz.prog 16=true:=by kernel_rfl
theorem zXh (p:Prg)(l:List Id)(v:Val)(fuel:Int):zJx p l v 0 fuel=jG p l v fuel:=zQy p l v fuel
theorem zLR {p:Prg}{hs:List Hd}(hf:Fit p hs)(l:List Id)(hl:l.length≤1000000)(v:Val)(hv:qC v≤256∧zAx v≤24)(fuel:Int)(h0 : -90000≤fuel)(h1:fuel≤90000) :
 Ret Tryz.prog 45 [.agg (zM p),.sl l.length (zL l),.agg (zF v),int fuel] [] (zED (jG p l v fuel)) []:=by
 have hP:=eP p;refine zI Tryz.func45 rfl qFG (rs:=[.cell 8 3 true,.slot 9,.slot 10]) (by kernel_rfl) ?_;unfold zYi;simp -implicitDefEqProofs [hP,zF];intro hlm;refine jM (S:=Nat×Val×Int) (fun s=>[(1,.sl l.length (zL l)),(3,int fuel),(4,.ptr 0 0),(6,.ptr 1 0),(8,.ptr 2 0),(11,int s.2.2),(17,.sl l.length (zL l)),(18,int l.length),(19,int s.1)]) (fun s=>[.box (zM p),.box (zF s.2.1),.box [int 0,int 0,.nil]])
  (fun s=>s.1≤l.length∧(qC s.2.1≤256∧zAx s.2.1≤24)∧0≤s.2.2∧s.2.2≤max fuel 0∧jG p l v fuel=zJx p (l.drop s.1) s.2.1 s.2.2 fuel) (fun s=>l.length-s.1) (0,v,0) ⟨by simp,hv,by simp,by simp only; omega,by simp[zXh]⟩
  (zO [0,1,2] 0 (by decide) (by simp) (by simp[hP,zF]) (by simp)) ?_
 rintro⟨i,x,st⟩ ⟨hi,hx,hs0,hs1,ho⟩;simp only at hi hx hs0 hs1 ho;by_cases h:i<l.length
 ·have hd:l.drop i=l[i]::l.drop (i+1):=jAu h;have hw:=zA0 i (by omega);have hw2:=jS (fuel-st) (by omega);simp -implicitDefEqProofs [hP,zF,h,yW h,hw2];have hcall:=zQj hf l[i] [x] (gas:=fuel-st) (fuel:=max (fuel-st) 0) rfl (by omega) (by simpa using hx);rw[zWC hf]at hcall;refine qD hcall (by simp[hP,zC,zF,zD9]) (by simp[zED,zF]) ?_;have hsm:=zP7 hf l[i] [x] (by simpa using hx) (fuel-st);rw[hd]at ho;by_cases he:(yU p l[i] [x] (fuel-st)).2.2=0
  ·rw[zSP he]at ho;simp -implicitDefEqProofs [zED,zF,he];have hw3:IntKind.i64.wrap (st+(yU p l[i] [x] (fuel-st)).2.1)=st+(yU p l[i] [x] (fuel-st)).2.1:=IntWalk.i64_in _ (by omega);exact zP (i+1,(yU p l[i] [x] (fuel-st)).1,st+(yU p l[i] [x] (fuel-st)).2.1) ⟨h,hsm.1,by simp only; omega,by simp only; omega,ho⟩ (by simp only; omega) (zO [0,1,2] 0 (by decide) (by simp) (by simp[hP,zF]) (by simp[hw,hw3]))
  ·rw[zVi he]at ho;simp -implicitDefEqProofs [zED,zF,he];exact zB 0 (by simp[ho,zED,zF,vz,jO,qO,zV])
 ·have hi':i=l.length:=by omega
  subst hi';rw[List.drop_length,zVj]at ho;simp -implicitDefEqProofs [hP,zF];exact zB 0 (by simp[ho,zED,zF])
theorem zUf {p:Prg}{hs:List Hd}(hf:Fit p hs)(l:List Id)(hl:l.length≤1000000)(v:Val)(hv:qC v≤256∧zAx v≤24)(fuel:Int)(h0 : -90000≤fuel)(h1:fuel≤90000) :
 Ret Tryz.prog 16 [.agg (zM p),.sl l.length (zL l),.agg (zF v),int fuel] [] (zED (zGI p l v fuel)) []:=by
 have hP:=eP p;refine zI Tryz.func16 rfl qFA (rs:=[.cell 8 3 true,.slot 9,.slot 10]) (by kernel_rfl) ?_;unfold zYc;cases hl0:l with
 | nil =>
  simp -implicitDefEqProofs [hP,zF];exact zB 0 (by simp[zGI,zED,zF])
 | cons y l' =>
  rw[←hl0];have hne:l≠[]:=by rw[hl0]; simp
  have hlen:¬((l.length:Int)=0):=by rw[hl0]; simp; omega
  simp -implicitDefEqProofs [hP,zF,hlen,hne];intro _;refine qD (zWO p l hl) (by simp[hP]) (by simp[zIX,zU]) ?_;by_cases hp:zHS p l=true
  ·have hlead:∃a,yH p (l.getD 0 .zero)=some a:=by
    have h1:zEq p l 1=true:=zPh (List.length_pos_iff.2 hne) hp;simp only[zEq,jC1,zJs]at h1;cases hc:yH p (l.getD 0 .zero)with
    | none=>rw[hc]at h1; cases h1
    | some a=>exact⟨a,rfl⟩
   obtain⟨a,ha⟩:=hlead;have hfro:zVa p l=a.1:=by rw[zVa,ha]; rfl
   have hal:zGI p l v fuel=if zB5 p a.1 v=false then (vz,0,1) else jG p l v fuel:=by rw[zGI,if_neg hne,if_neg (by rw[hp]; decide),ha]
   simp -implicitDefEqProofs [zIX,zH5,hp,hne,hfro,zU];refine qD (zMB p a.1 v hv.1 hv.2) (by simp[hP,zU,zF]) (by simp) ?_;cases hfi:zB5 p a.1 v
   ·simp -implicitDefEqProofs;exact zB 0 (by simp[hal,hfi,zED,zF,vz,jO,qO,zV])
   ·simp -implicitDefEqProofs;refine qD (zLR hf l hl v hv fuel h0 h1) (by simp[hP,zF]) (by simp[zED,zF]) ?_;simp -implicitDefEqProofs [zED,zF];exact zB 0 (by simp[hal,hfi,zED,zF])
  ·have hp':zHS p l=false:=by simpa using hp
   have hal:zGI p l v fuel=(vz,0,1):=by rw[zGI,if_neg hne,if_pos hp']
   simp -implicitDefEqProofs [zIX,zH5,hp',zU];exact zB 0 (by simp[hal,zED,zF,vz,jO,qO,zV])
def zYx:K:=G [kO 2 0,kO 3 1,kZ 4 kz2,kZ 5 kz2,kMb 6 false] (G [J 10 2 2,J 11 3 3,kC 12 36 [(kt 10),(kt 11)],M 9 12,kE 13 9 0,kE 14 9 1,kZ 7 kz0,S 7 13 31,M 8 14] (Z (G [M 15 8,kR 16 15,M 17 16,T 17 false (D 18 7 3),T 17 false (L 19 18 1),T 17 false (kQi 20 19 5 true),kPt 21 17 20,M 22 21,T 22 false (D 23 7 8),T 22 false (L 24 23 1),T 22 false (kN 25 24),T 22 false (kQi 26 25 1 true),kPt 27 22 26] (Y 27 (G [kb 28 kz2 [],kb 29 kz2 [],S 4 28 5,S 5 29 5,kMb 6 false] kr) ks)) (Z (K.dops [(0,0,D 30 7 8),(1,0,L 31 30 1),(2,0,kXi 32 31 11 0),(3,0,D 33 32 4),(4,0,J 34 33 5),(5,2,D 35 7 9),(6,2004,J 36 35 5),(7,1004,S 4 34 5),(8,0,S 5 36 5),(9,0,kMb 6 true)]) kr)))
def qHf:Nat→Option (List (Nat×Nat)):=fun r=>match r with | 4=>some [(0,0),(1,0),(2,0),(3,0),(4,0),(5,2),(6,2004),(7,1004),(8,0),(9,0)] | _=>none
theorem qGa:qE Tryz.prog Tryz.f13.ntmps qHf (Tryz.f13.body.getD .skip)=some zYx.erase:=by kernel_rfl
@[simp] theorem qJM:zA Tryz.prog 13=true:=by kernel_rfl
def zCr (a:Option (Typ×Typ)):A:=.tup [.agg (zU (a.getD (.zero,.zero)).1),.agg (zU (a.getD (.zero,.zero)).2),bl a.isSome]
theorem zVw (p:Prg)(hL:p.defs.length≤1000000)(id:Id):Ret Tryz.prog 13 [.agg (zM p),.agg (zC id)] [] (zCr (yH p id)) []:=by
 have hP:=eP p;have hdf:=zT1 p hL id;unfold zBL at hdf;refine qL Tryz.func13 rfl qGa (rs:=[.cell 4 5 true,.cell 5 5 true,.slot 6]) (by kernel_rfl) ?_;unfold zYx;simp -implicitDefEqProofs [hP,zC];refine qD hdf (by simp[zM,zC]) (by simp) ?_;cases hd:qT p.defs id with
 | none =>
  have hv:yH p id=none:=by simp[yH,hd]
  simp -implicitDefEqProofs [zG];exact zB 0 (by simp[zCr,hv,zU,Typ.zero,Id.zero])
 | some d =>
  by_cases hk:d.kind=5
  ·match hs:d.slots with
   | [s] =>
    have hv:yH p id=some (s.typ,d.res):=by simp[yH,hd,hk,hs]
    have hcs:yI [s]=yG s:=by simp[yI]
    simp -implicitDefEqProofs [zG,hk,hs,hcs,yG];exact fun _=>zB 0 (by simp[zCr,hv,zU])
   | [] =>
    have hv:yH p id=none:=by simp[yH,hd,hs]
    simp -implicitDefEqProofs [zG,hk,hs];exact zB 0 (by simp[zCr,hv,zU,Typ.zero,Id.zero])
   | s::s'::l =>
    have hv:yH p id=none:=by simp[yH,hd,hs]
    have h1:¬((l.length:Int)+1+1=1):=by omega
    simp -implicitDefEqProofs [zG,hk,hs,h1]
    first | exact fun _=>zB 0 (by simp[zCr,hv,zU,Typ.zero,Id.zero]) | exact zB 0 (by simp[zCr,hv,zU,Typ.zero,Id.zero])
  ·have hv:yH p id=none:=by simp[yH,hd,hk]
   simp -implicitDefEqProofs [zG,hk];exact zB 0 (by simp[zCr,hv,zU,Typ.zero,Id.zero])
@[simp] theorem qEn {rf g}(a:Option (Typ×Typ)):vw rf g (zCr a)=zCr a:=by cases a<;>simp[zCr,zU]
@[simp] theorem qJL:zA Tryz.prog 46=true:=by kernel_rfl
@[simp] theorem qJK:zA Tryz.prog 48=true:=by kernel_rfl
@[simp] theorem qLk {rf g}(r:Val×Int×Int):vw rf g (zED r)=zED r:=by simp[zED,zF]
@[simp] theorem qJI:zA Tryz.prog 17=true:=by kernel_rfl
@[simp] theorem qJN:zA Tryz.prog 54=true:=by kernel_rfl
def zYo:K:=G [kO 2 0,kO 3 1,kMb 4 false] (G [J 8 2 2,J 9 3 3,kC 10 96 [(kt 8),(kt 9)],M 7 10,kE 11 7 0,kE 12 7 1,kZ 5 kz0,S 5 11 31,M 6 12] (G [M 13 6,M 14 13,T 14 true (D 15 5 3),T 14 true (L 16 15 1),T 14 true (kQi 17 16 0 false),T 14 true (M 18 17),T 18 false (D 19 5 3),T 18 false (L 20 19 1),T 18 false (kQi 21 20 1 false),T 14 true (kPt 22 18 21),kPf 23 14 22,M 4 23] kr))
theorem qFM:zR Tryz.prog Tryz.f52.ntmps (Tryz.f52.body.getD .skip)=some zYo.erase:=by kernel_rfl
@[simp] theorem qJ0:zA Tryz.prog 52=true:=by kernel_rfl
def zAT (p:Prg)(id:Id):Bool:=match qT p.defs id with
 | some d=>decide (d.kind=0)||decide (d.kind=1)
 | none=>false
theorem zM5 (p:Prg)(id:Id):Ret Tryz.prog 52 [.agg (zM p),.agg (zC id)] [] (bl (zAT p id)) []:=by
 have hP:=eP p;have hdf:=zDn p id;unfold zBL at hdf;refine zI Tryz.func52 rfl qFM (rs:=[.slot 4]) (by kernel_rfl) ?_;unfold zYo;simp -implicitDefEqProofs [hP,zC];refine qD hdf (by simp[zM,zC]) (by simp) ?_;cases hd:qT p.defs id with
 | none =>
  simp -implicitDefEqProofs [zG];exact zB 0 (by simp[zAT,hd])
 | some d =>
  by_cases hk:d.kind=0
  ·simp -implicitDefEqProofs [zG,hk];exact zB 0 (by simp[zAT,hd,hk])
  ·simp -implicitDefEqProofs [zG,hk];exact zB 0 (by simp[zAT,hd,hk])
def zYj:K:=G [kO 2 0,kO 3 1,kMi 4 0] (Z (K.dops [(0,0,D 5 2 0),(1,0,L 6 5 1),(2,0,D 7 3 0),(3,0,L 8 7 1),(4,0,kC 9 80 [(kt 6),(kt 8)]),(5,0,D 10 2 1),(6,0,L 11 10 1),(7,0,D 12 3 1),(8,0,L 13 12 1),(9,0,kC 14 80 [(kt 11),(kt 13)]),(10,0,D 15 2 2),(11,0,L 16 15 1),(12,0,D 17 3 2),(13,0,L 18 17 1),(14,0,kC 19 80 [(kt 16),(kt 18)]),(15,0,kd 20 3 1 3 [ki,ki,ki] [(0,1,(kt 9)),(1,1,(kt 14)),(2,1,(kt 19))]),(16,0,kC 21 79 [(kt 20)]),(17,0,M 4 21)]) kr)
theorem qFH:zR Tryz.prog Tryz.f147.ntmps (Tryz.f147.body.getD .skip)=some zYj.erase:=by kernel_rfl
@[simp] theorem qJw:zA Tryz.prog 147=true:=by kernel_rfl
theorem zSz (x y:Id):Ret Tryz.prog 147 [.agg (zC x),.agg (zC y)] [] (int (zIs x y)) []:=by refine zI Tryz.func147 rfl qFH (rs:=[.slot 4]) (by kernel_rfl) ?_;unfold zYj;simp -implicitDefEqProofs [zC];refine qK (zBW x.a y.a) (by simp) (by simp) ?_;simp -implicitDefEqProofs;refine qK (zBW x.b y.b) (by simp) (by simp) ?_;simp -implicitDefEqProofs;refine qK (zBW x.c y.c) (by simp) (by simp) ?_;simp -implicitDefEqProofs;refine qK (zVE [zA2 x.a y.a,zA2 x.b y.b,zA2 x.c y.c]) (by simp) (by simp) ?_;simp -implicitDefEqProofs;exact zB 0 (by simp[zIs])
def zAZ (e:Edg):List A:=[.lit (.int .i64 e.id.a),.lit (.int .i64 e.id.b),.lit (.int .i64 e.id.c),.lit (.int .i64 e.fro.a),.lit (.int .i64 e.fro.b),.lit (.int .i64 e.fro.c),.lit (.int .i64 e.to.a),.lit (.int .i64 e.to.b),.lit (.int .i64 e.to.c)]
def yF (l:List Edg):List A:=l.flatMap zAZ
theorem zF6 (d:Edg):qF (zAZ d):=qF.lit (qF.lit (qF.lit (qF.lit (qF.lit (qF.lit (qF.lit (qF.lit (qF.lit qF.nil))))))))
theorem zG6 (l:List Edg):qF (yF l):=zAW zF6 l
@[simp] theorem zX0 (l:List Edg):qV (yF l)=yF l:=(zG6 l).1
@[simp] theorem qCf {rf g}(l:List Edg):vwL rf g (yF l)=yF l:=(zG6 l).2 _ _
@[simp] theorem zYF:yF []=[]:=rfl
theorem zE4 (x:Edg)(l:List Edg):yF (x::l)=zAZ x++yF l:=rfl
theorem zJM (l l':List Edg):yF (l++l')=yF l++yF l':=by simp only[yF,jCe]
@[simp] theorem zYE (l:List Edg):(yF l).length=l.length*9:=by rw[yF,zBC (k:=9) (fun _=>rfl)]
theorem zBk {l:List Edg}{i:Nat}(h:i<l.length):(yF l).drop (i*9)=zAZ l[i]++yF (l.drop (i+1)):=by rw[yF,yF,zDg (k:=9) (fun _=>rfl) h]
@[simp] theorem qCS (d:Edg):(zAZ d).length=9:=rfl
@[simp] theorem qCR (d:Edg):(zAZ d).take 9=zAZ d:=jAj (jA _)
@[simp] theorem qAG (d:Edg)(l:List A):(zAZ d++l).take 9=zAZ d:=by rw[jC (by simp)]; exact jAj (by simp)
@[simp] theorem qBv (d:Edg):qV (zAZ d)=zAZ d:=(zF6 d).1
@[simp] theorem qIT (d:Edg) {rf g}:vwL rf g (zAZ d)=zAZ d:=(zF6 d).2 _ _
@[simp] theorem zL2 (e:Edg)(k:Nat):zBe k (zAZ e)=true:=by simp[zAZ]
@[simp] theorem zYA (l:List Edg)(k:Nat):zBe k (yF l)=true:=by
 induction l with
 | nil=>rfl
 | cons e l ih=>rw[zE4,zFt,ih,zL2]; rfl
def zYe:K:=G [kO 2 0,kO 3 1,kMi 4 0] (G [D 5 2 0,J 6 5 3,D 7 3 0,J 8 7 3,kC 9 147 [(kt 6),(kt 8)],M 4 9] kr)
theorem qFC:zR Tryz.prog Tryz.f146.ntmps (Tryz.f146.body.getD .skip)=some zYe.erase:=by kernel_rfl
@[simp] theorem qJr:zA Tryz.prog 146=true:=by kernel_rfl
theorem zPV (x y:Edg):Ret Tryz.prog 146 [.agg (zAZ x),.agg (zAZ y)] [] (int (zIs x.id y.id)) []:=by refine zI Tryz.func146 rfl qFC (rs:=[.slot 4]) (by kernel_rfl) ?_;unfold zYe;simp -implicitDefEqProofs [zAZ];refine qD (zSz x.id y.id) (by simp[zC]) (by simp) ?_;simp -implicitDefEqProofs;exact zB 0 (by simp)
def zXG:Go.Shelf.Ren:=⟨fun | 6=>145 | 15=>121 | 14=>172 | 28=>165 | 29=>166 | 20=>187 | 21=>188 | 22=>189 | 23=>190 | 24=>191 | 25=>192 | 26=>193 | 27=>194 | 46=>201 | 49=>202 | 50=>203 | 57=>209 | 47=>182 | 48=>183 | n=>n,fun | 22=>149 | 24=>155 | 25=>202 | 3=>3 | 39=>181 | 0=>0 | 53=>222 | 55=>224 | 4=>4 | 46=>215 | 45=>214 | 50=>219 | 5=>5 | 9=>9 | 66=>241 | 70=>245 | 76=>256 | 77=>257 | n=>n,fun n=>n⟩
theorem zRM:Go.Proofs.SlLaysF0.n6 Tryz.prog zXG:={
 mixed:=by kernel_rfl,
 f6:=⟨Tryz.f145.name,by decide,Tryz.func145.trans (congrArg some (by kernel_rfl))⟩,
 f14:=⟨Tryz.f172.name,by decide,Tryz.func172.trans (congrArg some (by kernel_rfl))⟩,
 f15:=Tryz.func121.trans (congrArg some (by kernel_rfl)),
 f20:=⟨Tryz.f187.name,by decide,Tryz.func187.trans (congrArg some (by kernel_rfl))⟩,
 f21:=⟨Tryz.f188.name,by decide,Tryz.func188.trans (congrArg some (by kernel_rfl))⟩,
 f22:=⟨Tryz.f189.name,by decide,Tryz.func189.trans (congrArg some (by kernel_rfl))⟩,
 f23:=⟨Tryz.f190.name,by decide,Tryz.func190.trans (congrArg some (by kernel_rfl))⟩,
 f24:=⟨Tryz.f191.name,by decide,Tryz.func191.trans (congrArg some (by kernel_rfl))⟩,
 f25:=⟨Tryz.f192.name,by decide,Tryz.func192.trans (congrArg some (by kernel_rfl))⟩,
 f26:=⟨Tryz.f193.name,by decide,Tryz.func193.trans (congrArg some (by kernel_rfl))⟩,
 f27:=⟨Tryz.f194.name,by decide,Tryz.func194.trans (congrArg some (by kernel_rfl))⟩,
 f28:=Tryz.func165.trans (congrArg some (by kernel_rfl)),
 f29:=Tryz.func166.trans (congrArg some (by kernel_rfl)),
 f46:=⟨Tryz.f201.name,by decide,Tryz.func201.trans (congrArg some (by kernel_rfl))⟩,
 f47:=Tryz.func182.trans (congrArg some (by kernel_rfl)),
 f48:=Tryz.func183.trans (congrArg some (by kernel_rfl)),
 f49:=⟨Tryz.f202.name,by decide,Tryz.func202.trans (congrArg some (by kernel_rfl))⟩,
 f50:=⟨Tryz.f203.name,by decide,Tryz.func203.trans (congrArg some (by kernel_rfl))⟩,
 f57:=⟨Tryz.f209.name,by decide,Tryz.func209.trans (congrArg some (by kernel_rfl))⟩,
 t0:=Tryz.underlying0,
 a0:=Tryz.isAgg0,
 z0:=Tryz.sizeOf0,
 v0:=Tryz.zeroValue0,
 t3:=Tryz.underlying3,
 a3:=Tryz.isAgg3,
 z3:=Tryz.sizeOf3,
 v3:=Tryz.zeroValue3,
 t4:=Tryz.underlying4,
 a4:=Tryz.isAgg4,
 z4:=Tryz.sizeOf4,
 v4:=Tryz.zeroValue4,
 t5:=Tryz.underlying5,
 a5:=Tryz.isAgg5,
 z5:=Tryz.sizeOf5,
 v5:=Tryz.zeroValue5,
 t9:=Tryz.underlying9,
 a9:=Tryz.isAgg9,
 z9:=Tryz.sizeOf9,
 v9:=Tryz.zeroValue9,
 t22:=Tryz.underlying149,
 a22:=Tryz.isAgg149,
 z22:=Tryz.sizeOf149,
 v22:=Tryz.zeroValue149,
 t25:=Tryz.underlying202,
 a25:=Tryz.isAgg202,
 z25:=Tryz.sizeOf202,
 v25:=Tryz.zeroValue202,
 t39:=Tryz.underlying181,
 a39:=Tryz.isAgg181,
 z39:=Tryz.sizeOf181,
 v39:=Tryz.zeroValue181,
 t45:=Tryz.underlying214,
 a45:=Tryz.isAgg214,
 z45:=Tryz.sizeOf214,
 v45:=Tryz.zeroValue214,
 t46:=Tryz.underlying215,
 a46:=Tryz.isAgg215,
 z46:=Tryz.sizeOf215,
 v46:=Tryz.zeroValue215,
 t50:=Tryz.underlying219,
 a50:=Tryz.isAgg219,
 z50:=Tryz.sizeOf219,
 v50:=Tryz.zeroValue219,
 t53:=Tryz.underlying222,
 a53:=Tryz.isAgg222,
 z53:=Tryz.sizeOf222,
 v53:=Tryz.zeroValue222,
 t55:=Tryz.underlying224,
 a55:=Tryz.isAgg224,
 z55:=Tryz.sizeOf224,
 v55:=Tryz.zeroValue224,
 t66:=Tryz.underlying241,
 a66:=Tryz.isAgg241,
 z66:=Tryz.sizeOf241,
 v66:=Tryz.zeroValue241,
 t70:=Tryz.underlying245,
 a70:=Tryz.isAgg245,
 z70:=Tryz.sizeOf245,
 v70:=Tryz.zeroValue245,
 t76:=Tryz.underlying256,
 a76:=Tryz.isAgg256,
 z76:=Tryz.sizeOf256,
 v76:=Tryz.zeroValue256,
 t77:=Tryz.underlying257,
 a77:=Tryz.isAgg257,
 z77:=Tryz.sizeOf257,
 v77:=Tryz.zeroValue257}
@[simp] theorem qG0:zA Tryz.prog 145=true:=by kernel_rfl
theorem zWP:∀args w,(callFunc 146 args).run Tryz.prog w=.ok (.enter 146 args) w:=enters_of Tryz.func146 (by kernel_rfl) rfl
def zUb (E:List Edg):Prop:=∀a∈E,∀b∈E,a.id=b.id→a=b
abbrev zNB (E:List Edg):={e:Edg // e∈E}
def zSy {E:List Edg}(a b:zNB E):Int:=zIs a.1.id b.1.id
theorem zKy {E:List Edg}(h:zUb E):Ord (zSy (E:=E)) where
 irrefl x:=zDt.irrefl _
 trans x y z:=zDt.trans _ _ _
 ntrans x y z:=zDt.ntrans _ _ _
 anti x y a b:=Subtype.ext (h _ x.2 _ y.2 (zDt.anti _ _ a b))
theorem qBP {E:List Edg}(h:zUb E):zMF Tryz.prog 145 146 (fun e:zNB E=>zAZ e.1) zSy :=
 zWd (k:=9) (fun _=>rfl) (zKy h) (fun a b=>zPV a.1 b.1) fun α _ enc hk h1 cf hO blk off cap d w hcmp hH hblk hsz =>
  Go.Proofs.AnyQ.slices_SortFunc zRM 9 Tryz.isAgg155 Tryz.sizeOf155 enc hk h1 cf hO 146 #[] blk off cap d w zWP hcmp hH hblk hsz
theorem qHS:∀(p:Option Addr) (cap:Nat) (fv:Value) (w:World),Calls Tryz.prog 145 #[.slice p 0 cap,fv] w fun e w'=>e=.returned (.tuple #[])∧w'=w :=
 fun p cap fv w=>Go.Proofs.AnyF.slices_SortFunc_none zRM p cap fv w
def zKX (E:List Edg):List Edg:=(zDJ (zSy (E:=E)) (E.attach)).map (·.1)
theorem zOu {E:List Edg}(l:List (zNB E)):l.flatMap (fun e=>zAZ e.1)=yF (l.map (·.1)):=by
 induction l with
 | nil=>rfl
 | cons e l ih=>rw[jBc,ih,jA9,zE4]
theorem zWb {E:List Edg}(h:zUb E)(hmx:E.length<4611686018427387904):Ret Tryz.prog 145 [.row 0 E.length,.clo 146 [] []] [.row false 155 9 E.length (yF E)] (.tup []) [.row false 155 9 E.length (yF (zKX E))]:=by have:=zP4 (sz:=9) (by omega) (fun _=>rfl) (fun b:zNB E=>zL2 b.1 0) (zKy h) 155 (qBP h) qHS E.attach (by simpa using hmx);rw[zOu,zOu,List.length_attach]at this;rw[show (E.attach.map (·.1))=E from List.attach_map_subtype_val E]at this;exact this
theorem zCa (E:List Edg):(zKX E).Perm E:=by have h:=(List.mergeSort_perm E.attach fun x y=>!decide (zSy y x<0)).map (·.1);rw[show (E.attach.map (·.1))=E from List.attach_map_subtype_val E]at h;exact h
theorem zWc {E:List Edg}(h:zUb E)(hn:E.Nodup):SS ((zKX E).map (·.id)):=by
 have ho:=zKy h;have hs:=List.pairwise_mergeSort (le:=fun x y:zNB E=>!decide (zSy y x<0)) (fun a b c h1 h2=>by simp only[jBe,decide_eq_false_iff_not]at *; exact ho.ntrans c b a h2 h1)
  (fun a b=>by
   simp only[jB3,jBe,decide_eq_false_iff_not];by_cases h:zSy b a<0
   ·exact .inr fun h'=>ho.irrefl _ (ho.trans _ _ _ h h')
   ·exact .inl h) E.attach
 have hnd:(zKX E).Nodup:=(zCa E).nodup_iff.2 hn;unfold SS;rw[jCp];have h1:(zKX E).Pairwise fun a b=>¬zIs b.id a.id<0:=by
  unfold zKX;rw[jCp];exact hs.imp fun hab=>by simp only[jBe]at hab;exact of_decide_eq_false hab
 have h2:=List.Pairwise.and h1 hnd;have h3:=List.Pairwise.and_mem.1 h2;exact h3.imp fun {a b} ⟨ha,hb,hc,hne⟩=>by
  cases hl:zBu a.id b.id with
  | true=>rfl
  | false =>
   rw[zDZ]at hc;have hba:zBu b.id a.id=false:=by simpa using hc
   exact(hne (h a ((zCa E).mem_iff.1 ha) b ((zCa E).mem_iff.1 hb) (zDs hl hba))).elim
def zYf:K:=G [kO 1 0,kMn 2] (G [kMn 3] (Z (G [D 6 1 1,L 7 6 1,kN 8 7,kMi 9 0] (K.block 0 (K.loop (G [kB 10 9 8 .lss] (Z (Y 10 ks (K.exit 0)) (Z (K.block 1 (G [kX 11 7 9 31,J 12 11 31,kZ 5 kz0,S 5 12 31] (G [D 13 5 3,L 14 13 1,kQi 15 14 5 false,M 16 15,T 16 true (D 17 5 8),T 16 true (L 18 17 1),T 16 true (kN 19 18),T 16 true (kQi 20 19 1 false),kPf 21 16 20,M 22 21,T 22 true (D 23 5 8),T 22 true (L 24 23 1),T 22 true (kXi 25 24 11 0),T 22 true (D 26 25 4),T 22 true (D 27 26 0),T 22 true (L 28 27 1),T 22 true (kQi 29 28 3 false),kPf 30 22 29,M 31 30,T 31 true (D 32 5 9),T 31 true (D 33 32 0),T 31 true (L 34 33 1),T 31 true (kQi 35 34 3 false),kPf 36 31 35] (Y 36 (K.dops [(0,0,M 37 3),(1,0,D 38 5 0),(2,0,J 39 38 3),(3,0,D 40 5 8),(4,0,L 41 40 1),(5,0,kXi 42 41 11 0),(6,0,D 43 42 4),(7,0,D 44 43 1),(8,0,J 45 44 3),(9,0,D 46 5 9),(10,0,D 47 46 1),(11,0,J 48 47 3),(12,0,kb 49 [ki,ki,ki,ki,ki,ki,ki,ki,ki] [(0,3,(kt 39)),(3,3,(kt 45)),(6,3,(kt 48))]),(13,0,kd 50 155 9 1 [ki,ki,ki,ki,ki,ki,ki,ki,ki] [(0,9,(kt 49))]),(14,0,kP 51 155 9 72 37 50),(15,0,M 3 51)]) ks)))) (K.ops [kBi 52 9 1 .add,M 9 52]))))))) (G [M 53 3,kC 54 145 [(kt 53),(.func 146)]] (G [M 55 3,M 2 55] kr))))
theorem qFD:zR Tryz.prog Tryz.f98.ntmps (Tryz.f98.body.getD .skip)=some zYf.erase:=by kernel_rfl
@[simp] theorem qJs:zA Tryz.prog 98=true:=by kernel_rfl
def zCk (p:Prg):List Edg:=p.defs.filterMap jT
theorem zKa {p:Prg}{hs:List Hd}(hf:Fit p hs):zUb (zCk p)∧(zCk p).Nodup:=by
 have hnd:=hf.nd;have key:∀(l:List Dfn),l.Pairwise (fun a b=>a.id≠b.id)→((l.filterMap jT).map (·.id)).Nodup:=by
  intro l;induction l with
  | nil=>intro _; simp
  | cons d l ih =>
   intro h;have h':=jBy.1 h;rw[List.filterMap_cons];cases he:jT d with
   | none=>exact ih h'.2
   | some e =>
    simp only[jA9,jD9];refine⟨fun hm=>?_,ih h'.2⟩;obtain⟨e',he',hid⟩:=jAm.1 hm;obtain⟨d',hd',hde⟩:=jCc.1 he';rw[zEb he,zEb hde]at hid;exact h'.1 d' hd' hid.symm
 have hk:=key _ hnd;constructor
 ·intro a ha b hb hab;obtain⟨i,hi,rfl⟩:=jB4 ha;obtain⟨j,hj,rfl⟩:=jB4 hb;have hab':((zCk p).map (·.id))[i]'(by simpa using hi)=((zCk p).map (·.id))[j]'(by simpa using hj):=by simpa using hab
  have hij:=(List.getElem_inj hk).1 hab';subst hij;rfl
 ·exact List.Pairwise.of_map (·.id) (fun a b h e=>h (by rw[e])) hk
theorem zDI {p:Prg}{hs:List Hd}(hf:Fit p hs):zKX (zCk p)=yT p:=by
 obtain⟨h1,h2⟩:=zKa hf;refine zMQ hf (zWc h1 h2) fun e=>?_
 rw[(zCa _).mem_iff];unfold zCk;rw[jCc]
theorem zU9 {p:Prg}{hs:List Hd}(hf:Fit p hs):Ret Tryz.prog 98 [.agg (zM p)] [] (.sl (yT p).length (yF (yT p))) []:=by
 have hP:=eP p;have hL:=hf.len8;refine zI Tryz.func98 rfl qFD (rs:=[.slot 2]) (by kernel_rfl) ?_;unfold zYf;simp -implicitDefEqProofs [hP];intro hlm;have hlen:∀i,((p.defs.take i).filterMap jT).length≤100:=fun i=>by have:=jDa jT (p.defs.take i);rw[jB2]at this;omega
 refine jM (S:=Nat) (fun i=>[(3,.row 1 ((p.defs.take i).filterMap jT).length),(7,.sl p.defs.length (qB p.defs)),(8,int p.defs.length),(9,int i)]) (fun i=>[.box (zM p),.row false 155 9 ((p.defs.take i).filterMap jT).length (yF ((p.defs.take i).filterMap jT))])
  (fun i=>i≤p.defs.length) (fun i=>p.defs.length-i) 0 (by simp)
  ((zA9 (t:=3) (by simp) 155 9).trans (zO [0,1] 0 (by decide) (by simp) (by simp[hP]) (by simp))) ?_
 intro i hi;have hln:=hlen i;by_cases h:i<p.defs.length
 ·have hw:=zA0 i (by omega);have hts:p.defs.take (i+1)=p.defs.take i++[p.defs[i]]:=jAa h;generalize hE:(p.defs.take i).filterMap jT=E at *
  have hE':(p.defs.take (i+1)).filterMap jT=E++(jT p.defs[i]).toList:=by rw[hts,List.filterMap_append,hE];cases h:jT p.defs[i]<;>simp[List.filterMap_cons,h]
  simp -implicitDefEqProofs [hP,h,zA5 h];generalize hd:p.defs[i]=d at *
  by_cases hk:d.kind=5
  ·match hsl:d.slots with
   | [s] =>
    have hcs:yI [s]=yG s:=by simp[yI]
    by_cases h3:s.typ.k=3
    ·by_cases h4:d.res.k=3
     ·have hed:jT d=some ⟨d.id,s.typ.id,d.res.id⟩:=by simp[jT,hk,hsl,h3,h4]
      rw[hed]at hE';simp -implicitDefEqProofs [zG,hk,hsl,hcs,yG,h3,h4];exact fun _=>⟨⟨by simp[maxLen]; omega,by omega⟩,zP (i+1) h (by omega) (zO [0,1] 0 (by decide) (by simp) (by simp[hP,hE',zJM,zE4,zAZ]) (by simp[hw,hE']))⟩
     ·have hed:jT d=none:=by simp[jT,hk,hsl,h4]
      rw[hed]at hE';simp -implicitDefEqProofs [zG,hk,hsl,hcs,yG,h3,h4]
      first | exact fun _=>zP (i+1) h (by omega) (zO [0,1] 0 (by decide) (by simp) (by simp[hP,hE']) (by simp[hw,hE'])) | exact zP (i+1) h (by omega) (zO [0,1] 0 (by decide) (by simp) (by simp[hP,hE']) (by simp[hw,hE']))
    ·have hed:jT d=none:=by simp[jT,hk,hsl,h3]
     rw[hed]at hE';simp -implicitDefEqProofs [zG,hk,hsl,hcs,yG,h3]
     first | exact fun _=>zP (i+1) h (by omega) (zO [0,1] 0 (by decide) (by simp) (by simp[hP,hE']) (by simp[hw,hE'])) | exact zP (i+1) h (by omega) (zO [0,1] 0 (by decide) (by simp) (by simp[hP,hE']) (by simp[hw,hE']))
   | [] =>
    have hed:jT d=none:=by simp[jT,hsl]
    rw[hed]at hE';simp -implicitDefEqProofs [zG,hk,hsl]
    first | exact fun _=>zP (i+1) h (by omega) (zO [0,1] 0 (by decide) (by simp) (by simp[hP,hE']) (by simp[hw,hE'])) | exact zP (i+1) h (by omega) (zO [0,1] 0 (by decide) (by simp) (by simp[hP,hE']) (by simp[hw,hE']))
   | s::s'::l =>
    have hed:jT d=none:=by simp[jT,hsl]
    rw[hed]at hE';have h1:¬((l.length:Int)+1+1=1):=by omega
    simp -implicitDefEqProofs [zG,hk,hsl,h1]
    first | exact fun _=>zP (i+1) h (by omega) (zO [0,1] 0 (by decide) (by simp) (by simp[hP,hE']) (by simp[hw,hE'])) | exact zP (i+1) h (by omega) (zO [0,1] 0 (by decide) (by simp) (by simp[hP,hE']) (by simp[hw,hE']))
  ·have hed:jT d=none:=by simp[jT,hk]
   rw[hed]at hE';simp -implicitDefEqProofs [zG,hk];exact zP (i+1) h (by omega) (zO [0,1] 0 (by decide) (by simp) (by simp[hP,hE']) (by simp[hw,hE']))
 ·have hi':i=p.defs.length:=by omega
  subst hi';have hE:(p.defs.take p.defs.length).filterMap jT=zCk p:=by rw[jAv]; rfl
  rw[hE];have hle:(zCk p).length≤100:=by have:=jDa jT p.defs; unfold zCk; omega
  obtain⟨g1,g2⟩:=zKa hf;simp -implicitDefEqProofs [hP];refine jJ (zWb g1 (by omega)) [1] (by simp) (by simp) (by simp) ?_;simp -implicitDefEqProofs [hP];rw[zDI hf,show (zCk p).length=(yT p).length by rw[←zDI hf]; exact(zCa _).length_eq.symm];exact zB 1 (by simp)
end Go.Proofs.YtdnelmeboihpkaaGreatDoor
