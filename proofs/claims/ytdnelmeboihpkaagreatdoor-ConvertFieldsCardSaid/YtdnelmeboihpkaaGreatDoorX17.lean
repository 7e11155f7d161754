/-
  The reference's Call.
  eval.do: an evaluation whose failure is recovered.
  The reference tracer's Call returns what the program's does.
  eval.Call.
  What a run has asked decides nothing: eval.Call and the reference's call agree.
  Paths of converters and values that follow them, as data.
  The converters of a program as edges, in the order of their IDs.
  Following a path: with more fuel, and in two parts.
  The paths of a program: what the reference lists.
  There are few paths.
  convert.follow and Along.
  The reference's Leads, IsPath, follow and Along.
  convert.order and edges.
-/
import Derived.Test.YtdnelmeboihpkaaGreatDoorX16
import Derived.Test.YtdnelmeboihpkaaGreatDoorX13
import Derived.Test.YtdnelmeboihpkaaGreatDoorX11
set_option linter.unusedVariables false
set_option maxHeartbeats 8000000
set_option maxRecDepth 100000
set_option linter.unusedSimpArgs false
namespace Go.Proofs.YtdnelmeboihpkaaGreatDoor
open Go.Abs
def Fl (s:XS):Prop:=s.fail=0∨s.fail=4∨s.fail=18
section
variable {p:Prg}{ev:Evl}
theorem zS5 (h:∀e V s,Fl s→Fl (ev e V s).2)(V:List EVar):∀(l:List Exp) (s:XS),Fl s→Fl (qX ev V l s).2
 | [],s,hs=>hs
 | e::l,s,hs=>by simp only[qX]; exact zS5 h V l _ (h e V s hs)
theorem zPw (h:∀e V s,Fl s→Fl (ev e V s).2)(V:List EVar)(i:Id)(b:Exp):∀(l:List Val) (r:Val×XS),Fl r.2→Fl (yL ev V i b l r).2
 | [],r,hs=>hs
 | e::l,r,hs=>by simp only[yL]; exact zPw h V i b l _ (h _ _ _ hs)
theorem zOT (h:∀e V s,Fl s→Fl (ev e V s).2)(d:Dfn)(vs:List Val)(s:XS)(hs:Fl s):Fl (zBv ev d vs s).2:=by
 unfold zBv;split
 ·exact hs
 ·exact h _ _ _ hs
theorem zQV (h:∀e V s,Fl s→Fl (ev e V s).2)(e:Exp)(V:List EVar)(s:XS)(hs:Fl s):Fl (yY ev e V s).2:=by
 unfold yY;have h0:=h (e.kids.headD .zero) V s hs;generalize ev (e.kids.headD .zero) V s=r at *
 repeat' split
 all_goals first
  | exact h0
  | exact h _ _ _ h0
  | exact zPw h _ _ _ _ _ (h _ _ _ h0)
theorem zVc (h:∀e V s,Fl s→Fl (ev e V s).2)(fl:Nat)(e:Exp)(V:List EVar)(s:XS)(hs:Fl s):Fl (qN p fl ev e V s).2:=by
 unfold qN;have h0:=zS5 h V e.kids s hs;generalize qX ev V e.kids s=r at *
 repeat' split
 all_goals first
  | exact hs
  | exact h0
  | exact zQV h _ _ _ hs
  | exact zOT h _ _ _ h0
theorem zZk {r:Val×XS}(h:Fl r.2):Fl (zCF r):=by
 unfold zCF;split
 ·exact .inr (.inl rfl)
 ·exact h
theorem zQg (fl:Nat):∀(n:Nat) e V s,Fl s→Fl (qH p fl n e V s).2
 | 0,e,V,s,hs=>by
  rw[qH];split
  ·exact hs
  ·exact .inr (.inr rfl)
 | n+1,e,V,s,hs=>by
  rw[qH];split
  ·exact hs
  ·split
   ·exact .inr (.inr rfl)
   ·exact zZk (zVc (zQg fl n) fl e V _ hs)
end
def zCS (p:Prg)(d:Dfn)(vs:List Val)(fuel:Int):Val×XS:=zBv (qH p 2 fuel.toNat) d vs ⟨fuel,0,[],[]⟩
def jG (p:Prg)(id:Id)(vs:List Val)(fuel:Int):Val×Int×Int:=match qQ p.defs id with
 | none=>(vz,0,6)
 | some d=>if zNE d.kind=false then (vz,0,6) else if vs.length≠d.slots.length then (vz,0,1)
  else if zAA p (d.slots.map Slt.typ) vs=false then (vz,0,1) else if (zCS p d vs fuel).2.fail≠0 then (vz,0,(zCS p d vs fuel).2.fail) else ((zCS p d vs fuel).1,fuel-(zCS p d vs fuel).2.fuel,0)
def zCE (r:Val×Int×Int):A:=.tup [.agg (zC r.1),int r.2.1,int r.2.2]
@[simp] theorem qP6:zB Tryz.prog 92=true:=by kernel_rfl
end Go.Proofs.YtdnelmeboihpkaaGreatDoor
namespace Go.Proofs.YtdnelmeboihpkaaGreatDoor
open Go Go.Abs
def qJ3:List KG:=[⟨none,.box (some 3) (.tmp 0)⟩,⟨none,.alloc (some 6) [(.int .i64 0),(.int .i64 0),(.slice none 0 0)]⟩,⟨none,.alloc (some 7) [(.int .i64 0)]⟩,⟨none,.alloc (some 8) [(.int .i64 0)]⟩]
def qJ4:List KG:=[⟨none,.ld (some 10) (.tmp 3) 2 true⟩,⟨none,.mov (some 11) (.tmp 1)⟩,⟨none,.mm (some 12) true [(.tmp 11),(.const (.int .i64 0))]⟩,
 ⟨none,.build (some 13) [(.slice none 0 0),(.slice none 0 0),(.int .i64 0),(.int .i64 0)] [(0,2,(.tmp 10)),(2,1,(.tmp 12))]⟩,⟨none,.box (some 14) (.tmp 13)⟩,⟨none,.mov (some 9) (.tmp 14)⟩]
def zZi:List KG:=[⟨none,.mov (some 16) (.tmp 2)⟩,⟨none,.mov (some 17) (.tmp 9)⟩,⟨none,.call (some 18) (.tmp 16) [(.tmp 17)]⟩,⟨none,.st none (.tmp 6) (.tmp 18) 3⟩]
def qJ5:List KG:=[⟨none,.addr (some 19) (.tmp 6) 2⟩,⟨none,.ld (some 20) (.tmp 19) 1 false⟩,⟨none,.call (some 21) (.func 108) [(.tmp 20)]⟩,⟨none,.addr (some 22) (.tmp 6) 2⟩,⟨none,.st none (.tmp 22) (.tmp 21) 1⟩]
def qJ6:List (Nat×Nat×KG):=[(0,0,⟨none,.ld (some 23) (.tmp 6) 3 true⟩),(1,0,⟨none,.mov (some 24) (.tmp 9)⟩),(2,0,⟨none,.nilc (some 25) (.tmp 24)⟩),(3,2,⟨none,.addr (some 26) (.tmp 25) 3⟩),(4,2004,⟨none,.ld (some 27) (.tmp 26) 1 false⟩),
 (5,1004,⟨none,.st none (.tmp 6) (.tmp 23) 3⟩),(6,0,⟨none,.st none (.tmp 7) (.tmp 27) 1⟩),(7,0,⟨none,.st none (.tmp 8) (.const (.int .i64 0)) 1⟩)]
def hDo:Nat→Option (List (Nat×Nat)):=fun r=>match r with | 5=>some [(0,0),(1,0),(2,0),(3,2),(4,2004),(5,1004),(6,0),(7,0)] | _=>none
def dfr (pv ps pe:Value):Deferred:={target:=.fn (.func 107) #[pv,ps,pe],args:=#[]}
abbrev sDo (D:St)(p:Prg)(F:Int)(v:Val)(n e:Int)(s:XS):St:=D++[.box (zK p),.box (zC v),.box [int n],.box [int e]]++eS p F s
def zMo (F:Int)(r:Val×XS):A:=if r.2.fail=0 then .tup [.agg (zC r.1),int (F-r.2.fuel),int 0] else .tup [.agg (zC vz),int 0,int r.2.fail]
def qBS:K:=G [kZ 4 [ki,ki,kl]] (G [M 5 0,J 6 1 31,L 7 2 1,kC 8 72 [(kt 5),(kt 6),(kt 7)],S 4 8 3] kr)
theorem qIb:zQ Tryz.prog Tryz.f71.ntmps (Tryz.f71.body.getD .skip)=some qBS.erase:=by kernel_rfl
@[simp] theorem qOD:zB Tryz.prog 71=true:=by kernel_rfl
section
variable {p:Prg}{F:Int}{d:Dfn}{us:List Val}{s:XS}{r:Val×XS}
abbrev dA (d:Dfn)(us:List Val):St:=[.box (zF d),.box [.sl us.length (zJ us)]]
abbrev qQc (G:Int):List (Nat×A):=[(1,int G),(2,.clo 71 [] [.ptr 0 0,.ptr 1 0]),(3,.ptr 2 0),(6,.ptr 3 0),(7,.ptr 4 0),(8,.ptr 5 0)]
abbrev zRE:List (Nat×A):=[(2,.clo 71 [] [.ptr 0 0,.ptr 1 0]),(6,.ptr 3 0),(7,.ptr 4 0),(8,.ptr 5 0),(9,.ptr 6 0)]
theorem qCN {G:Int}(hG:F=max G 0)(hs:s.fuel=F)(hz:r.2.fail=0→zW r.1≤256)
 (hret:r.2.fail=0→Ret Tryz.prog 71 [.ptr 0 0,.ptr 1 0,.ptr 2 0] (eS p F s++dA d us) (.agg (zC r.1)) (eS p F r.2++dA d us))
 (hpan:r.2.fail≠0→zAk Tryz.prog 71 [.ptr 0 0,.ptr 1 0,.ptr 2 0] (eS p F s++dA d us) fun o σ'=>o=.pan (zPp r.2.fail)∧σ'[1]?=some (.box (zF d))∧σ'[2]?=some (.box [.sl us.length (zJ us)])) :
 Ret Tryz.prog 70 [.agg (zK p),int G,.clo 71 [] [.ptr 0 0,.ptr 1 0]] (dA d us) (zMo F r) (dA d us):=by
 have hP:=eP p;refine zF2 (fun H L w vs hst hargs=>?_);have hL:L.length=2:=hst.len
 suffices h:∀R:Ending→World→Prop,(∀(v:Value) (σ':St) (H':Mem) (L':List LI) (w':World) (r':A),Rel H' L' r' v→Nxt H L w H' L' σ' w'→zHe 2 (zMo F r) (dA d us) (.ret r') σ'→R (.returned v) w')→CallsIn Fence.wide 0 Tryz.prog 70 vs.toArray w R from
  callsIn_wide.1 (h _ fun v σ' H' L' w' r' g1 g2 g3=>⟨.ret r',σ',H',L',⟨v,rfl,g1⟩,g2,g3⟩)
 intro R hR;refine callsIn_of_wp_defers (n:=0) (F:=Fence.wide) Tryz.func70 rfl trivial ?_;refine zI1 (n0:=2) (hint:=hDo) (l:=qJ3) (N:=28) (by kernel_rfl) (zJ0 hargs _) hst (Q:=fun x env τ=>x=.norm∧zA7 2 (qG (qQc G))
  (dA d us++[.box (zK p),.box (zC vz),.box [int 0],.box [int 0]]) env τ) ?_ (fun env' τ H' L' w' a' hd' he' hn' hq'=>?_) (fun x _ _ _ _ _ _ hx _ _ _ hq=>(hx hq.1).elim)
 ·unfold qJ3;simp[hP];exact zP [0,1,2,3,4,5] 0 (by decide) (by simp) (by simp[zC,qV,qA,zR]) (by simp)
 obtain⟨H',L',hn',he'⟩:=hq'.2 _ _ _ _ _ _ _ _ hL hn' he';refine zI1 (n0:=2) (hint:=hDo) (l:=qJ4) (N:=28) (by kernel_rfl) he' hn'.st (Q:=fun x env τ=>x=.norm∧zA7 2 (qG zRE) (sDo (dA d us) p F vz 0 0 s) env τ)
  ?_ (fun env' τ H1 L1 w' a' hd'' he1 hn1 hq1=>?_) (fun x _ _ _ _ _ _ hx _ _ _ hq=>(hx hq.1).elim)
 ·unfold qJ4;simp[hP];exact zP [0,1,2,3,4,5,6] 0 (by decide) (by simp) (by simp[zC,qV,qA,zR,eS,hP,hs]; omega) (by simp)
 rw[hd']at hd'';obtain⟨H',L',hn',he'⟩:=hq1.2 _ _ _ _ _ _ _ _ hL (hn'.trans hn1) he1;have hmf:∀(fn:Fn) (first cap:Array Value) (w:World),(Instr.makeFunc fn first cap).run Tryz.prog w=.ok (.func fn first cap) w:=fun _ _ _ _=>rfl
 have hsz:28≤a'.tmps.size:=he'.1;have hsz':15<a'.tmps.size:=by omega
 refine wpIn_seq (wpIn_region_list ?_);simp only[wpListIn];simp[Region.wanted,Oper.wpIn,Oper.uponIn,go_sem,hmf,Exit.then,hsz',hd'',wpListIn];have h6:=he'.2 6;have h7:=he'.2 7;have h8:=he'.2 8;rw[jDk]at h6 h7 h8;have he3:∀X,zY H' L' 28 (qG zRE) (a'.tmps.setIfInBounds 15 X):=fun X=>by
  have:=he'.put (a:=a') (d:=some 15) (fun x hx=>by cases hx; omega) (r:=.any) (v:=X) (by simp[Rel]);have h15:Env.put (qG zRE) (some 15) .any=qG zRE:=by
   funext t;simp only[Env.put];split
   ·rename_i ht; subst ht; rfl
   ·rfl
  rw[h15]at this;exact this
 generalize a'.tmps[6]?.getD undef=pv at *
 generalize a'.tmps[7]?.getD undef=ps at *
 generalize a'.tmps[8]?.getD undef=pe at *
 have he3:=he3 (Value.func (Fn.func 107) #[] #[pv,ps,pe]);generalize a'.tmps.setIfInBounds 15 (Value.func (Fn.func 107) #[] #[pv,ps,pe])=tm at *
 have idle:∀(pv ps pe:Value) (tm:Array Value) (w3:World) (v:Value),(results Tryz.f70 tm).run Tryz.prog w3=.ok v w3→R (.returned v) w3→LeavesIn Fence.wide 0 Tryz.prog Tryz.f70 tm R [dfr pv ps pe] .returning w3:=fun pv ps pe tm w3 v g1 g2=>by refine leavesIn_cons (f:=107) (args:=#[pv,ps,pe]) (by simp) (by simp[Fence.wide]) (by simp[go_sem]) (fun _ _=>trivial) ?_;refine(zTU pv ps pe w3).mono ?_;rintro e u' w'' ⟨rfl,rfl,rfl⟩;exact⟨v,g1,g2⟩
 by_cases hf:r.2.fail=0
 ·refine zI1 (n0:=2) (hint:=hDo) (l:=zZi) (N:=28) (by kernel_rfl) he3 hn'.st (Q:=fun x env τ=>x=.norm∧zA7 2 (qG zRE) (sDo (dA d us) p F r.1 0 0 r.2) env τ) ?_
   (fun env' τ H1 L1 w1 a1 hd1 he1 hn1 hq1=>?_) (fun x _ _ _ _ _ _ hx _ _ _ hq=>(hx hq.1).elim)
  ·unfold zZi;simp[eS,hP];refine jO (hret hf) [6,0,1] (by decide) (by simp[eS,hP]) (by simp) ?_;simp[eS,hP,zC];exact zP [0,1,2,3,4,5,6] 0 (by decide) (by simp) (by simp[zC]) (by simp)
  obtain⟨H',L',hn',he'⟩:=hq1.2 _ _ _ _ _ _ _ _ hL (hn'.trans hn1) he1;have hco:=zHm r.1.kids (by have:=hz hf; have:=zCm r.1; omega);refine zI1 (n0:=2) (hint:=hDo) (l:=qJ5) (N:=28) (by kernel_rfl) he' hn'.st (Q:=fun x env τ=>x=.norm∧zA7 2 (qG zRE) (sDo (dA d us) p F r.1 0 0 r.2) env τ) ?_
   (fun env' τ H1 L1 w1 a1 hd2 he1 hn1 hq1=>?_) (fun x _ _ _ _ _ _ hx _ _ _ hq=>(hx hq.1).elim)
  ·unfold qJ5;simp[eS,hP,zC];refine qE hco (by simp) (by simp) ?_;simp[eS,hP,zC];exact zP [0,1,2,3,4,5,6] 0 (by decide) (by simp) (by simp[zC]) (by simp)
  obtain⟨H',L',hn',he'⟩:=hq1.2 _ _ _ _ _ _ _ _ hL (hn'.trans hn1) he1;refine zXA (n0:=2) (hint:=hDo) (l:=qJ6) (N:=28) (by kernel_rfl) he' hn'.st (Q:=fun x env τ=>x=.norm∧zA7 2 (qG zRE) (sDo (dA d us) p F r.1 (F-r.2.fuel) 0 r.2) env τ) ?_
   (fun env' τ H1 L1 w1 a1 hd3 he1 hn1 hq1=>?_) (fun x _ _ _ _ _ _ hx _ _ _ hq=>(hx hq.1).elim)
  ·unfold qJ6;simp[eS,hP,zC]
   try refine⟨(zGI (by decide) (by decide)).2 (by simp[zB8]),(zO4 (by decide) (by decide)).2 (by simp[zFs]),?_⟩
   exact zP [0,1,2,3,4,5,6] 0 (by decide) (by simp) (by simp[zC]) (by simp)
  obtain⟨H',L',hn',he'⟩:=hq1.2 _ _ _ _ _ _ _ _ hL (hn'.trans hn1) he1;have hds:a1.defers=[dfr pv ps pe]:=hd3.trans (hd2.trans hd1);refine wpIn_ret ?_;show LeavesIn Fence.wide 0 Tryz.prog Tryz.f70 a1.tmps R a1.defers .returning w1;rw[hds];obtain⟨v,g1,g2⟩:=zGt (P:=Tryz.prog) (fn:=Tryz.f70) (rs:=[.cell 6 3 true,.cell 7 1 false,.cell 8 1 false]) (by kernel_rfl) he' hn'.st (a:=.tup [.agg (zC r.1),int (F-r.2.fuel),int 0]) (by simp[zSe,zBf,zEl,ldA,zC]);exact idle pv ps pe _ _ v g1 (hR v _ _ _ _ _ g2 hn' (zL [0,1] 0 (by decide) (by simp) (by simp) (by simp[zMo,hf,zC])))
 ·refine zI1 (n0:=2) (hint:=hDo) (l:=zZi) (N:=28) (by kernel_rfl) he3 hn'.st (Q:=fun x env τ=>x=.pan (zPp r.2.fail)∧(env 6=.ptr 3 0∧env 7=.ptr 4 0∧env 8=.ptr 5 0)∧τ[0]?=some (.box (zF d))∧τ[1]?=some (.box [.sl us.length (zJ us)]) ∧
   τ[3]?=some (.box [int 0,int 0,.sl 0 []])∧τ[4]?=some (.box [int 0])∧τ[5]?=some (.box [int 0])) ?_ (fun env' τ H1 L1 w1 a1 hd1 he1 hn1 hq1=>by cases hq1.1) (fun x env' τ H1 L1 w1 a1 hx hd1 he1 hn1 hq1=>?_)
  ·unfold zZi;simp[eS,hP];refine zIL (C:=fun vs w R=>Calls Tryz.prog _ vs.toArray w R) (zHj Tryz.prog _) (hpan hf) [6,0,1] (by decide) (by simp[eS,hP]) (by simp) fun o σ1 h0=>?_
   obtain⟨rfl,g1,g2⟩:=h0;have hlen:∀n,3≤(σ1.map (zAN [6,0,1] n)).length:=fun n=>by rw[jB2];exact(jA1.1 g2).1
   refine⟨rfl,⟨rfl,rfl,rfl⟩,?_,?_,?_,?_,?_⟩
   ·rw[zDB (js:=[6,0,1]) (hlen _) (by decide) (by simp) (i:=1) rfl,jCu];simp[g1,zAN,vwO]
   ·rw[zDB (js:=[6,0,1]) (hlen _) (by decide) (by simp) (i:=2) rfl,jCu];simp[g2,zAN,vwO]
   ·rw[zCQ (by simp) (by simp)];simp[zC,qV,qA,zR]
   ·rw[zCQ (by simp) (by simp)];simp
   ·rw[zCQ (by simp) (by simp)];simp
  ·obtain⟨rfl,⟨e6,e7,e8⟩,t0,t1,t3,t4,t5⟩:=hq1;have l3:=(jA1.1 t3).1;have l4:=(jA1.1 t4).1;have l5:=(jA1.1 t5).1;have hds:a1.defers=[dfr pv ps pe]:=hd1;show LeavesIn Fence.wide 0 Tryz.prog Tryz.f70 a1.tmps R a1.defers (.panicking [{v:=zPp r.2.fail,recovered:=false}]) w1;rw[hds];refine leavesIn_cons (f:=107) (args:=#[pv,ps,pe]) (by simp) (by simp[Fence.wide]) (by simp[go_sem]) (fun _ _=>trivial) ?_;refine(zPm (vs:=[pv,ps,pe]) hn1.st (qT (Rel.mono hn1.step.hle hn1.lle _ h6) (qT (Rel.mono hn1.step.hle hn1.lle _ h7) (qT (Rel.mono hn1.step.hle hn1.lle _ h8) jM))) t3 t4 t5 (by decide) (by decide) (by decide)).mono ?_;rintro e u' w'' ⟨rfl,rfl,H2,L2,hn2⟩;obtain⟨v,g1,g2⟩:=zGt (P:=Tryz.prog) (fn:=Tryz.f70) (rs:=[.cell 6 3 true,.cell 7 1 false,.cell 8 1 false]) (by kernel_rfl) (he1.mono hn2.step.hle hn2.lle) hn2.st (a:=.tup [.agg [int 0,int 0,.nil],int 0,int r.2.fail])
    (by simp[zSe,zBf,zEl,ldA,e6,e7,e8,jDd,l3,l4,l5])
   exact⟨v,g1,hR v _ _ _ _ _ g2 (hn'.trans (hn1.trans hn2)) (zL [0,1] 0 (by decide) (by simp) (by simp[t0,t1]) (by simp[zMo,hf,zC,qV,qA,zR]))⟩
end
end Go.Proofs.YtdnelmeboihpkaaGreatDoor
namespace Go.Proofs.YtdnelmeboihpkaaGreatDoor
open Go.Abs
theorem zZS (p:Prg)(d:Dfn)(vs:List Val)(fuel:Int):Fl (zCS p d vs fuel).2:=zOT (zQg 2 fuel.toNat) d vs _ (.inl rfl)
end Go.Proofs.YtdnelmeboihpkaaGreatDoor
namespace Go.Proofs.YtdnelmeboihpkaaGreatDoor
open Go Go.Abs
section
variable {p:Prg}{F:Int}{d:Dfn}{us:List Val}{s:XS}{r:Val×XS}
theorem zWh (hb:RP 72 [.ptr 0 0,.agg (zF d),.sl us.length (zJ us)] p F s (.agg (zC r.1)) r.2)(hf:r.2.fail=0) :
 Ret Tryz.prog 71 [.ptr 0 0,.ptr 1 0,.ptr 2 0] (eS p F s++dA d us) (.agg (zC r.1)) (eS p F r.2++dA d us):=by
 have hP:=eP p;refine zH Tryz.func71 rfl qIb (rs:=[.cell 4 3 true]) (by kernel_rfl) ?_;unfold qBS;simp[eS,hP];refine jO (hb.ret hf) [0] (by decide) (by simp[eS,hP]) (by simp) ?_;simp[eS,hP,zC];exact zL [0,1,2] 0 (by decide) (by simp) (by simp) (by simp[zC])
theorem zWg (hb:RP 72 [.ptr 0 0,.agg (zF d),.sl us.length (zJ us)] p F s (.agg (zC r.1)) r.2)(hf:r.2.fail≠0) :
 zAk Tryz.prog 71 [.ptr 0 0,.ptr 1 0,.ptr 2 0] (eS p F s++dA d us) fun o σ'=>o=.pan (zPp r.2.fail)∧σ'[1]?=some (.box (zF d))∧σ'[2]?=some (.box [.sl us.length (zJ us)]):=by
 have hP:=eP p;refine zFP Tryz.func71 rfl qIb (rs:=[.cell 4 3 true]) (by kernel_rfl) ?_;unfold qBS wpF;simp[eS,hP];refine zHL (hb.pan hf) [0] (by decide) (by simp[eS,hP]) (by simp) fun τ=>?_
 refine⟨rfl,?_,?_⟩
 ·rw[zCQ (by simp) (by simp)]; rfl
 ·rw[zCQ (by simp) (by simp)]; rfl
end
def qGJ:K:=G [kO 2 0,kO 3 1,kZ 4 kz0,kMb 5 false] (G [J 9 2 2,J 10 3 3,kC 11 96 [(kt 9),(kt 10)],M 8 11,kE 12 8 0,kE 13 8 1,kZ 6 kz0,S 6 12 31,M 7 13] (Z (K.wk (K.dops [(0,0,J 14 6 31),(1,0,M 15 7),(2,0,M 16 15),(3,0,T 16 true (D 17 6 3)),(4,0,T 16 true (L 18 17 1)),(5,0,T 16 true (kQi 19 18 0 true)),(6,0,kPf 20 16 19),(7,0,M 21 20),(8,2,T 21 true (D 22 6 3)),(9,2,T 21 true (L 23 22 1)),(10,0,T 21 true (kQi 24 23 1 true)),(11,0,kPf 25 21 24),(12,0,S 4 14 31),(13,0,M 5 25)])) kr))
def qPV:Nat→Option (List (Nat×Nat)):=fun r=>match r with | 2=>some [(0,0),(1,0),(2,0),(3,0),(4,0),(5,0),(6,0),(7,0),(8,2),(9,2),(10,0),(11,0),(12,0),(13,0)] | _=>none
theorem qNU:qD Tryz.prog Tryz.f69.ntmps qPV (Tryz.f69.body.getD .skip)=some qGJ.erase:=by kernel_rfl
@[simp] theorem qOA:zB Tryz.prog 69=true:=by kernel_rfl
def zMy (p:Prg)(id:Id):A:=.tup [.agg (zF ((qQ p.defs id).getD .zero)),bl ((qQ p.defs id).isSome&&zHi ((qQ p.defs id).getD .zero))]
theorem zWe (p:Prg)(id:Id):Ret Tryz.prog 69 [.agg (zK p),.agg (zG id)] [] (zMy p id) []:=by
 have hP:=eP p;have hdf:=zDF p id;unfold zMy;unfold zAS at hdf;generalize (qQ p.defs id).getD .zero=d at *
 generalize (qQ p.defs id).isSome=b at *
 refine qP Tryz.func69 rfl qNU (rs:=[.cell 4 31 true,.slot 5]) (by kernel_rfl) ?_;unfold qGJ;simp[hP,zG];refine qE hdf (by simp[zK,zG]) (by simp) ?_;simp[zF];refine⟨_,_,zP (l:=[(4,.ptr 0 0),(6,.rptr (zF d)),(7,bl b)]) (σ':=[.box (kz0.map qR)]) [2] 1 (by simp) (by simp) (by simp) (by simp[zF]),?_⟩;cases b
 ·simp[zF];exact zA 0 (by simp[zF])
 ·by_cases h0:d.kind=0
  ·simp[zF,h0];exact zA 0 (by simp[zF,h0,zHi])
  ·by_cases h1:d.kind=1
   ·simp[zF,h0,h1];exact zA 0 (by simp[zF,h1,zHi])
   ·simp[zF,h0,h1];exact zA 0 (by simp[zF,h0,h1,zHi])
def zEz (p:Prg)(id:Id)(vs:List Val)(fuel:Int):A:=match qQ p.defs id with
 | none=>.tup [.agg (zC vz),int 0,int 6]
 | some d=>if zHi d=false then .tup [.agg (zC vz),int 0,int 6] else if vs.length≠d.slots.length then .tup [.agg (zC vz),int 0,int 1]
  else if zAA p (d.slots.map Slt.typ) vs=false then .tup [.agg (zC vz),int 0,int 1] else zMo fuel (zEI p d vs fuel)
def qAr:K:=G [kO 4 0,kO 5 1,kO 6 2,kZ 8 [ki,ki,kl],kMi 9 0,kMi 10 0] (G [J 16 4 2,J 17 5 3,kC 18 69 [(kt 16),(kt 17)],M 15 18,kE 19 15 0,kE 20 15 1,kZ 11 kz0,S 11 19 31,M 12 20] (Z (G [M 21 12,kR 22 21] (Y 22 (G [kb 23 [ki,ki,kl] [],S 8 23 3,kMi 9 0,kMi 10 6] kr) ks)) (Z (G [L 24 6 1,kN 25 24,D 26 11 8,L 27 26 1,kN 28 27,kQ 29 25 28 true] (Y 29 (G [kb 30 [ki,ki,kl] [],S 8 30 3,kMi 9 0,kMi 10 1] kr) ks)) (Z (G [D 31 11 8,L 32 31 1,kN 33 32,kMi 34 0] (K.block 0 (K.loop (G [kB 35 34 33 .lss] (Z (Y 35 ks (K.exit 0)) (Z (K.block 1 (G [M 36 34,kX 37 32 34 11,J 38 37 11,kZ 14 kz5,M 13 36,S 14 38 11] (Z (K.dops [(0,0,J 39 4 2),(1,0,D 40 14 4),(2,0,J 41 40 5),(3,0,L 42 6 1),(4,0,M 43 13),(5,0,kX 44 42 43 3),(6,0,J 45 44 3),(7,0,kC 46 30 [(kt 39),(kt 41),(kt 45)]),(8,0,kR 47 46)]) (Y 47 (G [kb 48 [ki,ki,kl] [],S 8 48 3,kMi 9 0,kMi 10 1] kr) ks)))) (K.ops [kBi 49 34 1 .add,M 34 49]))))))) (G [J 50 4 2,M 51 3,⟨none,.clo (some 52) 71 [] [(kt 11),(kt 6)]⟩,kC 53 70 [(kt 50),(kt 51),(kt 52)],kE 54 53 0,kE 55 53 1,kE 56 53 2,S 8 54 3,M 9 55,M 10 56] kr)))))
theorem qIc:zQ Tryz.prog Tryz.f29.ntmps (Tryz.f29.body.getD .skip)=some qAr.erase:=by kernel_rfl
@[simp] theorem qLE:zB Tryz.prog 29=true:=by kernel_rfl
@[simp] theorem qMk:zB Tryz.prog 70=true:=by kernel_rfl
theorem zKV {p:Prg}{hs:List Hd}(hf:Fit p hs)(id:Id)(vs:List Val){gas fuel:Int}(hG:fuel=max gas 0)(hfu:fuel≤90000)(hz:∀v∈vs,zW v≤256∧yV v≤24) :
 Ret Tryz.prog 29 [.agg (zK p),.agg (zG id),.sl vs.length (zJ vs),int gas] [] (zEz p id vs fuel) []:=by
 have hP:=eP p;have hbo:=zWe p id;refine qP Tryz.func29 rfl qIc (rs:=[.cell 8 3 true,.slot 9,.slot 10]) (by kernel_rfl) ?_;unfold qAr;simp[hP,zG];refine qE hbo (by simp[zK,zG]) (by simp[zMy]) ?_;cases hd:qQ p.defs id with
 | none =>
  rw[show zEz p id vs fuel=.tup [.agg (zC vz),int 0,int 6] by simp[zEz,hd]];simp[zMy,hd,zF];exact zA 0 (by simp[zC,qV,qA,zR])
 | some d =>
 have hdm:=(zAd hd).1;obtain⟨s1,s6,_,snd,sty⟩:=hf.slots d hdm;cases hb:zHi d with
 | false =>
  rw[show zEz p id vs fuel=.tup [.agg (zC vz),int 0,int 6] by simp[zEz,hd,hb]];simp[zMy,hd,hb,zF];exact zA 0 (by simp[zC,qV,qA,zR])
 | true =>
 simp[zMy,hd,hb,zF];by_cases hl:vs.length=d.slots.length
 ·have hfit:=fun i (hi:i<d.slots.length)=>zN5 p d.slots[i].typ (vs[i]'(by omega)) (hz _ (jA3 _)).1 (hz _ (jA3 _)).2
  simp[hl];intro hls;refine jR (S:=Nat) (fun i=>[(3,int gas),(4,.ptr 0 0),(6,.ptr 2 0),(8,.ptr 3 0),(11,.ptr 4 0),(32,.sl d.slots.length (yN d.slots)),(33,int d.slots.length),(34,int i)])
   (fun i=>[.box (zK p),.box (zG id),.box [.sl vs.length (zJ vs)],.box [int 0,int 0,.nil],.box (zF d)]) (fun i=>i≤d.slots.length∧∀j (hj:j<i) (hj':j<d.slots.length),yX p d.slots[j].typ (vs[j]'(by omega))=true) (fun i=>d.slots.length-i) 0 ⟨by omega,fun j hj=>by omega⟩
   (zP [0,1,2,3,4] 0 (by decide) (by simp) (by simp[hP,zF,zG,hl]) (by simp)) ?_
  rintro i ⟨hi,hft⟩;by_cases hil:i<d.slots.length
  ·have hiv:i<vs.length:=by omega
   have hdr:=jV hil;have hdv:=qY hiv;have hfi:=hfit i hil;cases hfv:yX p d.slots[i].typ vs[i]with
   | false =>
    rw[hfv]at hfi;have hfl:zAA p (d.slots.map Slt.typ) vs=false:=by
     cases hq:zAA p (d.slots.map Slt.typ) vs with
     | false=>rfl
     | true =>
      have:=zD6 hq i (by simpa using hil) hiv;rw[jBn,hfv]at this;cases this
    rw[show zEz p id vs fuel=.tup [.agg (zC vz),int 0,int 1] by simp[zEz,hd,hb,hl,hfl]];simp[hP,hil,hiv,hdr,hdv,yK,zF];refine qU hfi (by simp[hP,zM,zC]) (by simp) ?_;simp;exact zA 0 (by simp[zC,qV,qA,zR])
   | true =>
    rw[hfv]at hfi;simp[hP,hil,hiv,hdr,hdv,yK,zF];refine qU hfi (by simp[hP,zM,zC]) (by simp) ?_;simp;refine zO (i+1) ⟨hil,fun j hj hj'=>?_⟩ (by omega) (zP [0,1,2,3,4] 0 (by decide) (by simp) (by simp[hP,zF]) (by simp[qC hil hls]));by_cases hji:j=i
    ·subst hji; exact hfv
    ·exact hft j (by omega) hj'
  ·have hie:i=d.slots.length:=by omega
   subst hie;have hfl:zAA p (d.slots.map Slt.typ) vs=true:=zG9 (by simpa using hl) fun j h1 h2=>by rw[jBn];exact hft j (by simpa using h1) (by simpa using h1)
   rw[show zEz p id vs fuel=zMo fuel (zEI p d vs fuel) by simp[zEz,hd,hb,hl,hfl]];have hty:TyL p (d.slots.map Slt.typ) vs:=TyL.of (by simpa using hl) fun j hj=>by rw[jBn];exact zNQ hf (sty _ (jA3 _)) _ (hft j (by omega) (by omega))
   have hV:=EnvT.args hty fun v hv=>(hz v hv).1
   have hIh:=zSL (F:=fuel) hf.bods (zTE hf) (by omega) fuel.toNat (by omega);have hca:=zPk hIh d vs hl s6 (s:=⟨fuel,0,zRW p d.slots [],[]⟩) rfl (fun _=>⟨_,_,hf.bods _ d hd hb,hV,zSI snd vs hl⟩) ⟨by simp only; omega,by simp only; omega⟩;change RP _ _ _ _ _ (.agg (zC (zEI p d vs fuel).1)) (zEI p d vs fuel).2 at hca;have hsz:(zEI p d vs fuel).2.fail=0→zW (zEI p d vs fuel).1≤256:=fun h0=>by
    have he:zEI p d vs fuel=qH p 1 fuel.toNat d.body (zC2 d.slots vs) ⟨fuel,0,zRW p d.slots []++[d.id],[]⟩:=by unfold zEI zBv; simp
    rw[he]at h0 ⊢;exact(hIh.snd _ _ _ _ _ (hf.bods _ d hd hb) hV h0).2
   generalize zEI p d vs fuel=r at *
   have hdo:=qCN (d:=d) (us:=vs) hG rfl hsz (zWh hca) (zWg hca);simp[hP];refine jO hdo [4,2] (by decide) (by simp[zF]) (by simp[hP]) ?_;by_cases h0:r.2.fail=0
   ·simp[zMo,h0,zC];exact zA 0 (by simp)
   ·simp[zMo,h0,zC];exact zA 0 (by simp)
 ·rw[show zEz p id vs fuel=.tup [.agg (zC vz),int 0,int 1] by simp[zEz,hd,hb,hl]];have hl':¬((vs.length:Int)=d.slots.length):=by omega
  simp[hl']
  intros
  exact zA 0 (by simp[zC,qV,qA,zR])
end Go.Proofs.YtdnelmeboihpkaaGreatDoor
namespace Go.Proofs.YtdnelmeboihpkaaGreatDoor
open Go.Abs
def SE (s s':XS):Prop:=s.fuel=s'.fuel∧s.fail=s'.fail
def EqF (r r':Val×XS):Prop:=SE r.2 r'.2∧(r.2.fail=0→r.1=r'.1)
theorem SE.rfl' (s:XS):SE s s:=⟨rfl,rfl⟩
theorem zGa {s s':XS}(h:SE s s')(v:Val):EqF (v,s) (v,s'):=⟨h,fun _=>rfl⟩
section
variable {p:Prg}{f g:Evl}
theorem zON (hf:zDS f)(h:∀e V s s',SE s s'→EqF (f e V s) (g e V s'))(V:List EVar):∀(l:List Exp) (s s':XS),SE s s'→SE (qX f V l s).2 (qX g V l s').2∧((qX f V l s).2.fail=0→(qX f V l s).1=(qX g V l s').1)
 | [],s,s',hs=>⟨hs,fun _=>rfl⟩
 | e::l,s,s',hs=>by have h1:=h e V s s' hs;have h2:=zON hf h V l _ _ h1.1;refine⟨by simp only[qX]; exact h2.1,fun h0=>?_⟩;have h3:=zNB hf h0;simp only[qX]at h0 ⊢;rw[←h2.2 h0,h1.2 h3]
theorem zMI (hf:zDS f)(hg:zDS g)(h:∀e V s s',SE s s'→EqF (f e V s) (g e V s'))(V:List EVar)(i:Id)(b:Exp):∀(l:List Val) (r r':Val×XS),EqF r r'→EqF (yL f V i b l r) (yL g V i b l r')
 | [],r,r',hr=>hr
 | x::l,r,r',hr=>by
  simp only[yL];refine zMI hf hg h V i b l _ _ ?_;by_cases h0:r.2.fail=0
  ·rw[hr.2 h0]; exact h _ _ _ _ hr.1
  ·rw[hf _ _ _ h0,hg _ _ _ (by rw[←hr.1.2]; exact h0)];exact zGa hr.1 _
theorem zYe {c c':Bool}{s s':XS}{v v':Val}(hs:SE s s')(h:s.fail=0→v=v'):EqF (zf c s v,s) (zf c' s' v',s'):=by refine⟨hs,fun hf=>?_⟩;simp only at hf ⊢;rw[zDg hf,zDg (by rw[←hs.2]; exact hf),h hf]
theorem zIJ (h:∀e V s s',SE s s'→EqF (f e V s) (g e V s'))(d:Dfn){vs vs':List Val}{s s':XS}(hs:SE s s')(hv:s.fail=0→vs=vs'):EqF (zBv f d vs s) (zBv g d vs' s'):=by
 unfold zBv;by_cases hf:s.fail=0
 ·rw[if_neg (by simp[hf]),if_neg (by simp[←hs.2,hf]),hv hf];exact h _ _ _ _ hs
 ·rw[if_pos hf,if_pos (by rw[←hs.2]; exact hf)];exact zGa hs _
theorem zOU (hf:zDS f)(hg:zDS g)(h:∀e V s s',SE s s'→EqF (f e V s) (g e V s'))(e:Exp)(V:List EVar){s s':XS}(hs:SE s s'):EqF (yY f e V s) (yY g e V s'):=by
 unfold yY;have h0:=h (e.kids.headD .zero) V s s' hs;generalize f (e.kids.headD .zero) V s=r at *
 generalize g (e.kids.headD .zero) V s'=r' at *
 obtain⟨v,t⟩:=r;obtain⟨v',t'⟩:=r';by_cases hz:t.fail=0
 ·have hz':t'.fail=0:=h0.1.2.symm.trans hz;have hv:v=v':=h0.2 hz;subst hv;simp only[hz,hz',ne_eq,not_true,if_false]
  repeat' split
  all_goals first
   | exact zGa h0.1 _
   | exact h _ _ _ _ h0.1
   | exact zMI hf hg h _ _ _ _ _ _ (h _ _ _ _ h0.1)
 ·rw[if_pos hz,if_pos (by simpa using fun e:t'.fail=0=>hz (h0.1.2.trans e))];exact zGa h0.1 _
theorem zSs (hf:zDS f)(hg:zDS g)(h:∀e V s s',SE s s'→EqF (f e V s) (g e V s'))(a b:Nat)(e:Exp)(V:List EVar){s s':XS}(hs:SE s s'):EqF (qN p a f e V s) (qN p b g e V s'):=by
 unfold qN;obtain⟨h1,h2⟩:=zON hf h V e.kids s s' hs;generalize qX f V e.kids s=r at *
 generalize qX g V e.kids s'=r' at *
 repeat' split
 all_goals first
  | exact zGa hs _
  | exact zOU hf hg h _ _ hs
  | exact zIJ h _ h1 h2
  | exact zYe h1 fun hz=>by rw[h2 hz]
theorem zWo (a b:Nat){r r':Val×XS}(h:EqF r r'):EqF (zPn a r) (zPn b r'):=by
 unfold zPn;have e:SE (zCF r) (zCF r')∧((zCF r).fail=0→r.1=r'.1):=by
  unfold zCF;by_cases hf:r.2.fail=0
  ·have hf':=h.1.2.symm.trans hf;rw[←h.2 hf];by_cases hb:zHJ r.1
   ·rw[if_pos ⟨hf,hb⟩,if_pos ⟨hf',hb⟩];exact⟨⟨h.1.1,rfl⟩,fun _=>rfl⟩
   ·rw[if_neg fun k=>hb k.2,if_neg fun k=>hb k.2];exact⟨h.1,fun _=>rfl⟩
  ·rw[if_neg fun k=>hf k.1,if_neg fun k=>hf (h.1.2.trans k.1)];exact⟨h.1,h.2⟩
 exact zYe e.1 e.2
theorem zJi (a b:Nat):∀(m:Nat) (e:Exp) (V:List EVar) (s s':XS),SE s s'→EqF (qH p a m e V s) (qH p b m e V s')
 | 0,e,V,s,s',hs=>by
  rw[qH,qH,hs.2];split
  ·exact zGa hs _
  ·exact zGa (s:={s with fail:=zE1}) (s':={s' with fail:=zE1}) ⟨hs.1,rfl⟩ _
 | m+1,e,V,s,s',hs=>by
  rw[qH,qH,hs.2,hs.1];split
  ·exact zGa hs _
  ·split
   ·exact⟨⟨rfl,rfl⟩,fun _=>rfl⟩
   ·exact zWo a b (zSs (zBn p a m) (zBn p b m) (zJi a b m) a b e V ⟨by simp only[zAF]; rw[hs.1],hs.2⟩)
end
theorem zS9 {p:Prg}{hs:List Hd}(hf:Fit p hs)(id:Id)(vs:List Val)(gas:Int):zEz p id vs (max gas 0)=zCE (jG p id vs gas):=by
 unfold zEz jG;cases hd:qQ p.defs id with
 | none=>rfl
 | some d =>
  have hk:=hf.kinds d (zAd hd).1;have hbb:zHi d=zNE d.kind:=by
   have h6:d.kind=0∨d.kind=1∨d.kind=2∨d.kind=3∨d.kind=4∨d.kind=5:=by omega
   unfold zHi zNE;rcases h6 with h | h | h | h | h | h<;>rw[h]<;>rfl
  simp only[hbb];by_cases h1:zNE d.kind=false
  ·rw[if_pos h1,if_pos h1]; rfl
  rw[if_neg h1,if_neg h1];by_cases h2:vs.length≠d.slots.length
  ·rw[if_pos h2,if_pos h2]; rfl
  rw[if_neg h2,if_neg h2];by_cases h3:zAA p (d.slots.map Slt.typ) vs=false
  ·rw[if_pos h3,if_pos h3]; rfl
  rw[if_neg h3,if_neg h3];have hn:(max gas 0).toNat=gas.toNat:=by omega
  by_cases hg:0≤gas
  ·have he:EqF (zEI p d vs (max gas 0)) (zCS p d vs gas):=by unfold zEI zCS;rw[hn];exact zIJ (zJi 1 2 gas.toNat) d ⟨by simp only; omega,rfl⟩ fun _=>rfl
   obtain⟨⟨e1,e2⟩,e3⟩:=he;unfold zMo;by_cases h0:(zEI p d vs (max gas 0)).2.fail=0
   ·rw[if_pos h0,if_neg (by simp[←e2,h0])];simp only[zCE];rw[e3 h0,e1,show max gas 0=gas by omega]
   ·rw[if_neg h0,if_pos (by rw[←e2]; exact h0),e2];rfl
  ·have hz:gas.toNat=0:=by omega
   have e1:(zEI p d vs (max gas 0)).2.fail=zE1:=by unfold zEI zBv; rw[hn,hz]; simp[qH]
   have e2:(zCS p d vs gas).2.fail=zE1:=by unfold zCS zBv; rw[hz]; simp[qH]
   unfold zMo;rw[if_neg (by rw[e1]; decide),if_pos (by rw[e2]; decide),e1,e2];rfl
theorem zLo {r:Val×XS}(h:(zCF r).fail=0):¬zHJ r.1∧r.2.fail=0:=by
 unfold zCF at h;split at h
 ·cases h
 ·rename_i h';exact⟨fun hb=>h' ⟨h,hb⟩,h⟩
theorem zUD (p:Prg)(fl n:Nat)(e:Exp)(V:List EVar)(s:XS)(h:(qH p fl n e V s).2.fail=0):¬zHJ (qH p fl n e V s).1:=by
 cases n with
 | zero =>
  rw[qH]at h;split at h
  ·rename_i h'; exact(h' h).elim
  ·cases h
 | succ n =>
  rw[qH]at h⊢;split at h
  ·rename_i h'; exact(h' h).elim
  ·rename_i h0;rw[if_neg h0];split at h
   ·cases h
   ·rename_i h1;rw[if_neg h1];have:=zLo (show (zCF _).fail=0 from h);show ¬zHJ (zf (fl==2) (zCF _) _);rw[zDg (show (zCF _).fail=0 from h)];exact this.1
section
variable {p:Prg}{hs:List Hd}(hf:Fit p hs)
include hf
theorem zQB (id:Id)(vs:List Val)(hz:∀v∈vs,zW v≤256∧yV v≤24)(fuel:Int) :
 (zW (jG p id vs fuel).1≤256∧yV (jG p id vs fuel).1≤24)∧0≤(jG p id vs fuel).2.1∧(jG p id vs fuel).2.1≤max fuel 0∧0≤(jG p id vs fuel).2.2∧(jG p id vs fuel).2.2≤100:=by
 have hvz:zW vz≤256∧yV vz≤24:=by decide
 unfold jG;split
 ·exact⟨hvz,by simp only; omega⟩
 ·rename_i d hd;by_cases h1:zNE d.kind=false
  ·rw[if_pos h1]; exact⟨hvz,by simp only; omega⟩
  rw[if_neg h1];by_cases h2:vs.length≠d.slots.length
  ·rw[if_pos h2]; exact⟨hvz,by simp only; omega⟩
  rw[if_neg h2];by_cases h3:zAA p (d.slots.map Slt.typ) vs=false
  ·rw[if_pos h3]; exact⟨hvz,by simp only; omega⟩
  rw[if_neg h3];have hfl:=zZS p d vs fuel;unfold Fl at hfl;by_cases h0:(zCS p d vs fuel).2.fail=0
  ·rw[if_neg (by simp[h0])];have hg:0≤fuel:=Int.not_lt.1 fun hn=>by
    have e2:(zCS p d vs fuel).2.fail=zE1:=by unfold zCS zBv; rw[show fuel.toNat=0 by omega]; simp[qH]
    rw[h0]at e2;cases e2
   have he:EqF (zEI p d vs fuel) (zCS p d vs fuel):=by unfold zEI zCS;exact zIJ (zJi 1 2 fuel.toNat) d ⟨rfl,rfl⟩ fun _=>rfl
   have hc:=zX7 p d vs fuel;have hu:=zZB p d vs fuel hg;rw[he.1.1]at hc hu;obtain⟨_,_,_,snd,sty⟩:=hf.slots d (zAd hd).1;have hft:zAA p (d.slots.map Slt.typ) vs=true:=by simpa using h3
   have hl:vs.length=d.slots.length:=by omega
   have hty:TyL p (d.slots.map Slt.typ) vs:=TyL.of (by simpa using hl) fun j hj=>by
    rw[jBn];refine zNQ hf (sty _ (jA3 _)) _ ?_;have:=zD6 hft j (by simp; omega) (by omega)
    rwa [jBn]at this
   have hbB:zHi d=true:=zTD (by simpa using h1);have hrun:zCS p d vs fuel=qH p 2 fuel.toNat d.body (zC2 d.slots vs) ⟨fuel,0,[d.id],[]⟩:=by unfold zCS zBv; simp
   have hsz:=zEC hf.bods 2 fuel.toNat d.body _ _ ⟨fuel,0,[d.id],[]⟩ d.res (hf.bods _ d hd hbB) (EnvT.args hty fun v hv=>(hz v hv).1) (by rw[←hrun]; exact h0);have hbig:=zUD p 2 fuel.toNat d.body (zC2 d.slots vs) ⟨fuel,0,[d.id],[]⟩ (by rw[←hrun]; exact h0);rw[←hrun]at hsz hbig;have hdp:yV (zCS p d vs fuel).1≤24:=by have:=zHl _ (by omega:zW (zCS p d vs fuel).1≤100000000);unfold zHJ at hbig;omega
   exact⟨⟨hsz.2,hdp⟩,by simp only; omega⟩
  ·rw[if_pos h0];refine⟨hvz,?_⟩;simp only;omega
end
def jJ (p:Prg):List Id→Val→Int→Val×Int×Int
 | [],v,_=>(v,0,0)
 | id::l,v,fuel=>if (jG p id [v] fuel).2.2≠0 then (vz,0,(jG p id [v] fuel).2.2)
  else if (jJ p l (jG p id [v] fuel).1 (fuel-(jG p id [v] fuel).2.1)).2.2≠0 then (vz,0,(jJ p l (jG p id [v] fuel).1 (fuel-(jG p id [v] fuel).2.1)).2.2)
  else ((jJ p l (jG p id [v] fuel).1 (fuel-(jG p id [v] fuel).2.1)).1,(jG p id [v] fuel).2.1+(jJ p l (jG p id [v] fuel).1 (fuel-(jG p id [v] fuel).2.1)).2.1,0)
section
variable {p:Prg}{hs:List Hd}(hf:Fit p hs)
include hf
end
def zKg (p:Prg)(l:List Id)(v:Val)(steps fuel:Int):Val×Int×Int :=
 if (jJ p l v (fuel-steps)).2.2≠0 then (vz,0,(jJ p l v (fuel-steps)).2.2) else ((jJ p l v (fuel-steps)).1,steps+(jJ p l v (fuel-steps)).2.1,0)
theorem zWJ (p:Prg)(v:Val)(steps fuel:Int):zKg p [] v steps fuel=(v,steps,0):=by simp[zKg,jJ]
theorem zWI {p:Prg}{id:Id}{l:List Id}{v:Val}{steps fuel:Int}(h:(jG p id [v] (fuel-steps)).2.2≠0):zKg p (id::l) v steps fuel=(vz,0,(jG p id [v] (fuel-steps)).2.2):=by simp[zKg,jJ,h]
theorem zUo {p:Prg}{id:Id}{l:List Id}{v:Val}{steps fuel:Int}(h:(jG p id [v] (fuel-steps)).2.2=0) :
 zKg p (id::l) v steps fuel=zKg p l (jG p id [v] (fuel-steps)).1 (steps+(jG p id [v] (fuel-steps)).2.1) fuel:=by
 unfold zKg;rw[show fuel-(steps+(jG p id [v] (fuel-steps)).2.1)=fuel-steps-(jG p id [v] (fuel-steps)).2.1 by omega];simp only[jJ,h,ne_eq,not_true,if_false];by_cases h2:(jJ p l (jG p id [v] (fuel-steps)).1 (fuel-steps-(jG p id [v] (fuel-steps)).2.1)).2.2=0
 ·simp[h2,Int.add_assoc]
 ·simp[h2]
theorem zUp (p:Prg)(l:List Id)(v:Val)(fuel:Int):zKg p l v 0 fuel=if (jJ p l v fuel).2.2≠0 then (vz,0,(jJ p l v fuel).2.2) else ((jJ p l v fuel).1,(jJ p l v fuel).2.1,0):=by simp[zKg]
theorem zRw (p:Prg):∀(l:List Id) (v:Val) (fuel:Int),(jJ p l v fuel).2.2≠0→(jJ p l v fuel).1=vz∧(jJ p l v fuel).2.1=0
 | [],v,fuel,h=>(h rfl).elim
 | id::l,v,fuel,h=>by
  unfold jJ at h⊢;split
  ·exact⟨rfl,rfl⟩
  ·rename_i h1;rw[if_neg h1]at h;split
   ·exact⟨rfl,rfl⟩
   ·rename_i h2;rw[if_neg h2]at h;exact(h rfl).elim
theorem zR6 (p:Prg)(l:List Id)(v:Val)(fuel:Int):zKg p l v 0 fuel=jJ p l v fuel:=by
 rw[zUp];by_cases h:(jJ p l v fuel).2.2=0
 ·rw[if_neg (by simp[h])];exact Prod.ext rfl (Prod.ext rfl h.symm)
 ·rw[if_pos h];have:=zRw p l v fuel h;exact Prod.ext this.1.symm (Prod.ext this.2.symm rfl)
def zHg (p:Prg)(l:List Id)(v:Val)(fuel:Int):Val×Int×Int :=
 if l=[] then (v,0,0)
 else if zIr p l=false then (vz,0,1)
 else match yE p (l.getD 0 .zero)with
  | some a=>if yX p a.1 v=false then (vz,0,1) else jJ p l v fuel
  | none=>(vz,0,1)
def yJ (d:Dfn):Option Edg:=if d.kind=5 then (match d.slots with | [s]=>if s.typ.k=3∧d.res.k=3 then some ⟨d.id,s.typ.id,d.res.id⟩ else none | _=>none) else none
theorem zE2 {d:Dfn}{e:Edg}(h:yJ d=some e):e.id=d.id:=by
 unfold yJ at h;split at h
 ·split at h
  ·split at h
   ·cases h; rfl
   ·cases h
  ·cases h
 ·cases h
def zBC (p:Prg):List Id:=zXB ((p.defs.filter fun d=>(yE p d.id).isSome).map (·.id))
def zBj (p:Prg):List Edg:=(zBC p).filterMap fun x=>(qQ p.defs x).bind yJ
theorem zKO {p:Prg}{hs:List Hd}(hf:Fit p hs)(e:Edg):e∈zBj p↔∃d∈p.defs,yJ d=some e:=by
 unfold zBj zBC;rw[jCo];constructor
 ·rintro⟨x,_,h⟩;rw[jA6]at h;obtain⟨d,h1,h2⟩:=h;exact⟨d,(zAd h1).1,h2⟩
 ·rintro⟨d,hd,he⟩;obtain⟨i,hi,rfl⟩:=jAo hd;have hfd:=zG8 hf.nd hi;refine⟨p.defs[i].id,?_,by rw[hfd]; exact he⟩;rw[zI2,jAn];refine⟨p.defs[i],List.mem_filter.2 ⟨hd,?_⟩,rfl⟩;unfold yE;rw[hfd];unfold yJ at he;simp only;split at he
  ·rename_i hk;rw[if_pos hk];split at he
   ·rename_i s hs;rw[hs]; rfl
   ·cases he
  ·cases he
theorem zEt {p:Prg}:∀(l:List Id),((l.filterMap fun x=>(qQ p.defs x).bind yJ).map (·.id)).Sublist l
 | []=>by simp
 | x::l=>by
  rw[List.filterMap_cons];cases h:(qQ p.defs x).bind yJ with
  | none=>exact(zEt l).cons _
  | some e =>
   rw[jA6]at h;obtain⟨d,h1,h2⟩:=h;have:=zE2 h2;rw[(zAd h1).2]at this;simp only[jAc,this];exact(zEt l).cons_cons _
theorem zTT (p:Prg):SS ((zBj p).map (·.id)):=(zO0 _).sublist (zEt _)
theorem zNN {p:Prg}{hs:List Hd}(hf:Fit p hs){S:List Edg}(h1:SS (S.map (·.id)))(h2:∀e,e∈S↔∃d∈p.defs,yJ d=some e):S=zBj p:=by
 have hid:S.map (·.id)=(zBj p).map (·.id):=h1.unique (zTT p) fun x=>by simp only[jAn,h2,zKO hf]
 have hinj:∀a b:Edg,(∃d∈p.defs,yJ d=some a)→(∃d∈p.defs,yJ d=some b)→a.id=b.id→a=b:=by rintro a b ⟨d,hd,ha⟩ ⟨d',hd',hb⟩ e;rw[zE2 ha,zE2 hb]at e;obtain⟨i,hi,rfl⟩:=jAo hd;obtain⟨j,hj,rfl⟩:=jAo hd';have hi':=zG8 hf.nd hi;have hj':=zG8 hf.nd hj;rw[e,hj']at hi';rw[←jAs hi',hb]at ha;exact(jAs ha).symm
 have key:∀(A B:List Edg),(∀e∈A,∃d∈p.defs,yJ d=some e)→(∀e∈B,∃d∈p.defs,yJ d=some e)→A.map (·.id)=B.map (·.id)→A=B:=by
  intro A;induction A with
  | nil=>intro B _ _ h; cases B with
   | nil=>rfl
   | cons b B=>simp at h
  | cons a A ih =>
   intro B hA hB h;cases B with
   | nil=>simp at h
   | cons b B =>
    simp only[jAc,jB6]at h;rw[hinj a b (hA a (by simp)) (hB b (by simp)) h.1,ih B (fun e he=>hA e (by simp[he])) (fun e he=>hB e (by simp[he])) h.2]
 exact key _ _ (fun e he=>(h2 e).1 he) (fun e he=>(zKO hf e).1 he) hid
theorem zW7 {α β : Type}(f : α→List β)(q : α→Bool)(B:Nat):∀L:List α,(∀x∈L,(f x).length≤if q x then B else 0)→(L.flatMap f).length≤(L.filter q).length*B
 | [],_=>by simp
 | x::L,h=>by
  have ih:=zW7 f q B L fun y hy=>h y (by simp[hy])
  have hx:=h x (by simp);rw[jBi,jA7,List.filter_cons];cases hq:q x
  ·rw[hq]at hx;simp only[jAi,if_false]at hx ⊢;omega
  ·rw[hq]at hx;simp only[if_true]at hx ⊢;rw[jAl,jBj];omega
def qAi:K:=G [kO 4 0,kO 6 2,kZ 8 [ki,ki,kl],kMi 9 0,kMi 10 0] (G [kMi 11 0] (Z (G [M 17 1,kN 18 17,kMi 19 0] (K.block 0 (K.loop (G [kB 20 19 18 .lss] (Z (Y 20 ks (K.exit 0)) (Z (K.block 1 (G [kX 21 17 19 3,J 22 21 3,kZ 13 [ki,ki,ki],S 13 22 3] (G [J 24 4 2,J 25 13 3,J 26 6 3,kd 27 46 3 1 [ki,ki,kl] [(0,3,(kt 26))],M 28 3,M 29 11,kB 30 28 29 .sub,kC 31 29 [(kt 24),(kt 25),(kt 27),(kt 30)],M 23 31,kE 32 23 0,kE 33 23 1,kE 34 23 2,kZ 14 [ki,ki,kl],S 14 32 3,M 15 33,M 16 34] (Z (G [M 35 16,kQi 36 35 0 true] (Y 36 (G [kb 37 [ki,ki,kl] [],M 38 16,S 8 37 3,kMi 9 0,M 10 38] kr) ks)) (G [J 39 14 3,S 6 39 3] (K.ops [M 40 11,M 41 15,kB 42 40 41 .add,M 11 42])))))) (K.ops [kBi 43 19 1 .add,M 19 43]))))))) (G [J 44 6 3,M 45 11,S 8 44 3,M 9 45,kMi 10 0] kr)))
theorem qHP:zQ Tryz.prog Tryz.f45.ntmps (Tryz.f45.body.getD .skip)=some qAi.erase:=by kernel_rfl
@[simp] theorem qL7:zB Tryz.prog 45=true:=by kernel_rfl
def qAc:K:=G [kO 4 0,kO 6 2,kZ 8 [ki,ki,kl],kMi 9 0,kMi 10 0] (Z (G [M 14 1,kN 15 14,kQi 16 15 0 false] (Y 16 (G [J 17 6 3,S 8 17 3,kMi 9 0,kMi 10 0] kr) ks)) (G [J 19 4 2,M 20 1,kC 21 44 [(kt 19),(kt 20)],M 18 21,kE 22 18 0,kE 23 18 1,kE 24 18 2,kZ 11 kz2,kZ 12 kz2,S 11 22 5,S 12 23 5,M 13 24] (Z (G [M 25 13,kR 26 25,M 27 26,T 27 false (J 28 4 2),T 27 false (J 29 11 5),T 27 false (J 30 6 3),T 27 false (kC 31 30 [(kt 28),(kt 29),(kt 30)]),T 27 false (kR 32 31),kPt 33 27 32] (Y 33 (G [kb 34 [ki,ki,kl] [],S 8 34 3,kMi 9 0,kMi 10 1] kr) ks)) (G [J 35 4 2,M 36 1,J 37 6 3,M 38 3,kC 39 45 [(kt 35),(kt 36),(kt 37),(kt 38)],kE 40 39 0,kE 41 39 1,kE 42 39 2,S 8 40 3,M 9 41,M 10 42] kr))))
theorem qHJ:zQ Tryz.prog Tryz.f16.ntmps (Tryz.f16.body.getD .skip)=some qAc.erase:=by kernel_rfl
@[simp] theorem qL1:zB Tryz.prog 16=true:=by kernel_rfl
theorem zYZ (p:Prg)(l:List Id)(v:Val)(fuel:Int):zKg p l v 0 fuel=jJ p l v fuel:=zR6 p l v fuel
theorem zMJ {p:Prg}{hs:List Hd}(hf:Fit p hs)(l:List Id)(hl:l.length≤1000000)(v:Val)(hv:zW v≤256∧yV v≤24)(fuel:Int)(h0 : -90000≤fuel)(h1:fuel≤90000) :
 Ret Tryz.prog 45 [.agg (zK p),.sl l.length (zS l),.agg (zC v),int fuel] [] (zCE (jJ p l v fuel)) []:=by
 have hP:=eP p;refine zH Tryz.func45 rfl qHP (rs:=[.cell 8 3 true,.slot 9,.slot 10]) (by kernel_rfl) ?_;unfold qAi;simp -implicitDefEqProofs [hP,zC];intro hlm;refine jR (S:=Nat×Val×Int) (fun s=>[(1,.sl l.length (zS l)),(3,int fuel),(4,.ptr 0 0),(6,.ptr 1 0),(8,.ptr 2 0),(11,int s.2.2),(17,.sl l.length (zS l)),(18,int l.length),(19,int s.1)]) (fun s=>[.box (zK p),.box (zC s.2.1),.box [int 0,int 0,.nil]])
  (fun s=>s.1≤l.length∧(zW s.2.1≤256∧yV s.2.1≤24)∧0≤s.2.2∧s.2.2≤max fuel 0∧jJ p l v fuel=zKg p (l.drop s.1) s.2.1 s.2.2 fuel) (fun s=>l.length-s.1) (0,v,0) ⟨by simp,hv,by simp,by simp only; omega,by simp[zYZ]⟩
  (zP [0,1,2] 0 (by decide) (by simp) (by simp[hP,zC]) (by simp)) ?_
 rintro⟨i,x,st⟩ ⟨hi,hx,hs0,hs1,ho⟩;simp only at hi hx hs0 hs1 ho;by_cases h:i<l.length
 ·have hd:l.drop i=l[i]::l.drop (i+1):=jAv h;have hw:=zAz i (by omega);have hw2:=jT (fuel-st) (by omega);simp -implicitDefEqProofs [hP,zC,h,yZ h,hw2];have hcall:=zKV hf l[i] [x] (gas:=fuel-st) (fuel:=max (fuel-st) 0) rfl (by omega) (by simpa using hx);rw[zS9 hf]at hcall;refine qE hcall (by simp[hP,zG,zC,zCZ]) (by simp[zCE,zC]) ?_;have hsm:=zQB hf l[i] [x] (by simpa using hx) (fuel-st);rw[hd]at ho;by_cases he:(jG p l[i] [x] (fuel-st)).2.2=0
  ·rw[zUo he]at ho;simp -implicitDefEqProofs [zCE,zC,he];have hw3:IntKind.i64.wrap (st+(jG p l[i] [x] (fuel-st)).2.1)=st+(jG p l[i] [x] (fuel-st)).2.1:=IntWalk.i64_in _ (by omega);exact zO (i+1,(jG p l[i] [x] (fuel-st)).1,st+(jG p l[i] [x] (fuel-st)).2.1) ⟨h,hsm.1,by simp only; omega,by simp only; omega,ho⟩ (by simp only; omega) (zP [0,1,2] 0 (by decide) (by simp) (by simp[hP,zC]) (by simp[hw,hw3]))
  ·rw[zWI he]at ho;simp -implicitDefEqProofs [zCE,zC,he];exact zA 0 (by simp[ho,zCE,zC,vz,qV,qA,zR])
 ·have hi':i=l.length:=by omega
  subst hi';rw[List.drop_length,zWJ]at ho;simp -implicitDefEqProofs [hP,zC];exact zA 0 (by simp[ho,zCE,zC])
theorem zV4 {p:Prg}{hs:List Hd}(hf:Fit p hs)(l:List Id)(hl:l.length≤1000000)(v:Val)(hv:zW v≤256∧yV v≤24)(fuel:Int)(h0 : -90000≤fuel)(h1:fuel≤90000) :
 Ret Tryz.prog 16 [.agg (zK p),.sl l.length (zS l),.agg (zC v),int fuel] [] (zCE (zHg p l v fuel)) []:=by
 have hP:=eP p;refine zH Tryz.func16 rfl qHJ (rs:=[.cell 8 3 true,.slot 9,.slot 10]) (by kernel_rfl) ?_;unfold qAc;cases hl0:l with
 | nil =>
  simp -implicitDefEqProofs [hP,zC];exact zA 0 (by simp[zHg,zCE,zC])
 | cons y l' =>
  rw[←hl0];have hne:l≠[]:=by rw[hl0]; simp
  have hlen:¬((l.length:Int)=0):=by rw[hl0]; simp; omega
  simp -implicitDefEqProofs [hP,zC,hlen,hne];intro _;refine qE (zYC p l hl) (by simp[hP]) (by simp[zJA,zM]) ?_;by_cases hp:zIr p l=true
  ·have hlead:∃a,yE p (l.getD 0 .zero)=some a:=by
    have h1:zEF p l 1=true:=zQl (List.length_pos_iff.2 hne) hp;simp only[zEF,jC3,zKb]at h1;cases hc:yE p (l.getD 0 .zero)with
    | none=>rw[hc]at h1; cases h1
    | some a=>exact⟨a,rfl⟩
   obtain⟨a,ha⟩:=hlead;have hfro:zWB p l=a.1:=by rw[zWB,ha]; rfl
   have hal:zHg p l v fuel=if yX p a.1 v=false then (vz,0,1) else jJ p l v fuel:=by rw[zHg,if_neg hne,if_neg (by rw[hp]; decide),ha]
   simp -implicitDefEqProofs [zJA,zHT,hp,hne,hfro,zM];refine qE (zN5 p a.1 v hv.1 hv.2) (by simp[hP,zM,zC]) (by simp) ?_;cases hfi:yX p a.1 v
   ·simp -implicitDefEqProofs;exact zA 0 (by simp[hal,hfi,zCE,zC,vz,qV,qA,zR])
   ·simp -implicitDefEqProofs;refine qE (zMJ hf l hl v hv fuel h0 h1) (by simp[hP,zC]) (by simp[zCE,zC]) ?_;simp -implicitDefEqProofs [zCE,zC];exact zA 0 (by simp[hal,hfi,zCE,zC])
  ·have hp':zIr p l=false:=by simpa using hp
   have hal:zHg p l v fuel=(vz,0,1):=by rw[zHg,if_neg hne,if_pos hp']
   simp -implicitDefEqProofs [zJA,zHT,hp',zM];exact zA 0 (by simp[hal,zCE,zC,vz,qV,qA,zR])
def qAw:K:=G [kO 2 0,kO 3 1,kZ 4 kz2,kZ 5 kz2,kMb 6 false] (G [J 10 2 2,J 11 3 3,kC 12 36 [(kt 10),(kt 11)],M 9 12,kE 13 9 0,kE 14 9 1,kZ 7 kz0,S 7 13 31,M 8 14] (Z (G [M 15 8,kR 16 15,M 17 16,T 17 false (D 18 7 3),T 17 false (L 19 18 1),T 17 false (kQi 20 19 5 true),kPt 21 17 20,M 22 21,T 22 false (D 23 7 8),T 22 false (L 24 23 1),T 22 false (kN 25 24),T 22 false (kQi 26 25 1 true),kPt 27 22 26] (Y 27 (G [kb 28 kz2 [],kb 29 kz2 [],S 4 28 5,S 5 29 5,kMb 6 false] kr) ks)) (Z (K.dops [(0,0,D 30 7 8),(1,0,L 31 30 1),(2,0,kXi 32 31 11 0),(3,0,D 33 32 4),(4,0,J 34 33 5),(5,2,D 35 7 9),(6,2004,J 36 35 5),(7,1004,S 4 34 5),(8,0,S 5 36 5),(9,0,kMb 6 true)]) kr)))
def qJo:Nat→Option (List (Nat×Nat)):=fun r=>match r with | 4=>some [(0,0),(1,0),(2,0),(3,0),(4,0),(5,2),(6,2004),(7,1004),(8,0),(9,0)] | _=>none
theorem qIi:qD Tryz.prog Tryz.f13.ntmps qJo (Tryz.f13.body.getD .skip)=some qAw.erase:=by kernel_rfl
@[simp] theorem qLW:zB Tryz.prog 13=true:=by kernel_rfl
def zCr (a:Option (Typ×Typ)):A:=.tup [.agg (zM (a.getD (.zero,.zero)).1),.agg (zM (a.getD (.zero,.zero)).2),bl a.isSome]
theorem zPO (p:Prg)(hL:p.defs.length≤1000000)(id:Id):Ret Tryz.prog 13 [.agg (zK p),.agg (zG id)] [] (zCr (yE p id)) []:=by
 have hP:=eP p;have hdf:=zEH p hL id;unfold zAS at hdf;refine qP Tryz.func13 rfl qIi (rs:=[.cell 4 5 true,.cell 5 5 true,.slot 6]) (by kernel_rfl) ?_;unfold qAw;simp -implicitDefEqProofs [hP,zG];refine qE hdf (by simp[zK,zG]) (by simp) ?_;cases hd:qQ p.defs id with
 | none =>
  have hv:yE p id=none:=by simp[yE,hd]
  simp -implicitDefEqProofs [zF];exact zA 0 (by simp[zCr,hv,zM,Typ.zero,Id.zero])
 | some d =>
  by_cases hk:d.kind=5
  ·match hs:d.slots with
   | [s] =>
    have hv:yE p id=some (s.typ,d.res):=by simp[yE,hd,hk,hs]
    have hcs:yN [s]=yK s:=by simp[yN]
    simp -implicitDefEqProofs [zF,hk,hs,hcs,yK];exact fun _=>zA 0 (by simp[zCr,hv,zM])
   | [] =>
    have hv:yE p id=none:=by simp[yE,hd,hs]
    simp -implicitDefEqProofs [zF,hk,hs];exact zA 0 (by simp[zCr,hv,zM,Typ.zero,Id.zero])
   | s::s'::l =>
    have hv:yE p id=none:=by simp[yE,hd,hs]
    have h1:¬((l.length:Int)+1+1=1):=by omega
    simp -implicitDefEqProofs [zF,hk,hs,h1]
    first | exact fun _=>zA 0 (by simp[zCr,hv,zM,Typ.zero,Id.zero]) | exact zA 0 (by simp[zCr,hv,zM,Typ.zero,Id.zero])
  ·have hv:yE p id=none:=by simp[yE,hd,hk]
   simp -implicitDefEqProofs [zF,hk];exact zA 0 (by simp[zCr,hv,zM,Typ.zero,Id.zero])
@[simp] theorem qGr {rf g}(a:Option (Typ×Typ)):vw rf g (zCr a)=zCr a:=by cases a<;>simp[zCr,zM]
@[simp] theorem qLV:zB Tryz.prog 46=true:=by kernel_rfl
@[simp] theorem qLU:zB Tryz.prog 48=true:=by kernel_rfl
@[simp] theorem qNt {rf g}(r:Val×Int×Int):vw rf g (zCE r)=zCE r:=by simp[zCE,zC]
@[simp] theorem qLS:zB Tryz.prog 17=true:=by kernel_rfl
@[simp] theorem qLX:zB Tryz.prog 54=true:=by kernel_rfl
def qAo:K:=G [kO 2 0,kO 3 1,kMb 4 false] (G [J 8 2 2,J 9 3 3,kC 10 96 [(kt 8),(kt 9)],M 7 10,kE 11 7 0,kE 12 7 1,kZ 5 kz0,S 5 11 31,M 6 12] (G [M 13 6,M 14 13,T 14 true (D 15 5 3),T 14 true (L 16 15 1),T 14 true (kQi 17 16 0 false),T 14 true (M 18 17),T 18 false (D 19 5 3),T 18 false (L 20 19 1),T 18 false (kQi 21 20 1 false),T 14 true (kPt 22 18 21),kPf 23 14 22,M 4 23] kr))
theorem qHV:zQ Tryz.prog Tryz.f52.ntmps (Tryz.f52.body.getD .skip)=some qAo.erase:=by kernel_rfl
@[simp] theorem qLC:zB Tryz.prog 52=true:=by kernel_rfl
def zBr (p:Prg)(id:Id):Bool:=match qQ p.defs id with
 | some d=>decide (d.kind=0)||decide (d.kind=1)
 | none=>false
theorem zNz (p:Prg)(id:Id):Ret Tryz.prog 52 [.agg (zK p),.agg (zG id)] [] (bl (zBr p id)) []:=by
 have hP:=eP p;have hdf:=zDF p id;unfold zAS at hdf;refine zH Tryz.func52 rfl qHV (rs:=[.slot 4]) (by kernel_rfl) ?_;unfold qAo;simp -implicitDefEqProofs [hP,zG];refine qE hdf (by simp[zK,zG]) (by simp) ?_;cases hd:qQ p.defs id with
 | none =>
  simp -implicitDefEqProofs [zF];exact zA 0 (by simp[zBr,hd])
 | some d =>
  by_cases hk:d.kind=0
  ·simp -implicitDefEqProofs [zF,hk];exact zA 0 (by simp[zBr,hd,hk])
  ·simp -implicitDefEqProofs [zF,hk];exact zA 0 (by simp[zBr,hd,hk])
def qAj:K:=G [kO 2 0,kO 3 1,kMi 4 0] (Z (K.dops [(0,0,D 5 2 0),(1,0,L 6 5 1),(2,0,D 7 3 0),(3,0,L 8 7 1),(4,0,kC 9 80 [(kt 6),(kt 8)]),(5,0,D 10 2 1),(6,0,L 11 10 1),(7,0,D 12 3 1),(8,0,L 13 12 1),(9,0,kC 14 80 [(kt 11),(kt 13)]),(10,0,D 15 2 2),(11,0,L 16 15 1),(12,0,D 17 3 2),(13,0,L 18 17 1),(14,0,kC 19 80 [(kt 16),(kt 18)]),(15,0,kd 20 3 1 3 [ki,ki,ki] [(0,1,(kt 9)),(1,1,(kt 14)),(2,1,(kt 19))]),(16,0,kC 21 79 [(kt 20)]),(17,0,M 4 21)]) kr)
theorem qHQ:zQ Tryz.prog Tryz.f147.ntmps (Tryz.f147.body.getD .skip)=some qAj.erase:=by kernel_rfl
@[simp] theorem qL8:zB Tryz.prog 147=true:=by kernel_rfl
theorem zTO (x y:Id):Ret Tryz.prog 147 [.agg (zG x),.agg (zG y)] [] (int (zIN x y)) []:=by refine zH Tryz.func147 rfl qHQ (rs:=[.slot 4]) (by kernel_rfl) ?_;unfold qAj;simp -implicitDefEqProofs [zG];refine qU (zCp x.a y.a) (by simp) (by simp) ?_;simp -implicitDefEqProofs;refine qU (zCp x.b y.b) (by simp) (by simp) ?_;simp -implicitDefEqProofs;refine qU (zCp x.c y.c) (by simp) (by simp) ?_;simp -implicitDefEqProofs;refine qU (zXu [zA5 x.a y.a,zA5 x.b y.b,zA5 x.c y.c]) (by simp) (by simp) ?_;simp -implicitDefEqProofs;exact zA 0 (by simp[zIN])
def zBo (e:Edg):List A:=[.lit (.int .i64 e.id.a),.lit (.int .i64 e.id.b),.lit (.int .i64 e.id.c),.lit (.int .i64 e.fro.a),.lit (.int .i64 e.fro.b),.lit (.int .i64 e.fro.c),.lit (.int .i64 e.to.a),.lit (.int .i64 e.to.b),.lit (.int .i64 e.to.c)]
def yH (l:List Edg):List A:=l.flatMap zBo
theorem zFX (d:Edg):qJ (zBo d):=qJ.lit (qJ.lit (qJ.lit (qJ.lit (qJ.lit (qJ.lit (qJ.lit (qJ.lit (qJ.lit qJ.nil))))))))
theorem zGT (l:List Edg):qJ (yH l):=zBl zFX l
@[simp] theorem zZr (l:List Edg):jF (yH l)=yH l:=(zGT l).1
@[simp] theorem qEq {rf g}(l:List Edg):vwL rf g (yH l)=yH l:=(zGT l).2 _ _
@[simp] theorem qAG:yH []=[]:=rfl
theorem zEW (x:Edg)(l:List Edg):yH (x::l)=zBo x++yH l:=rfl
theorem zKA (l l':List Edg):yH (l++l')=yH l++yH l':=by simp only[yH,jCh]
@[simp] theorem qAF (l:List Edg):(yH l).length=l.length*9:=by rw[yH,zBU (k:=9) (fun _=>rfl)]
theorem zB0 {l:List Edg}{i:Nat}(h:i<l.length):(yH l).drop (i*9)=zBo l[i]++yH (l.drop (i+1)):=by rw[yH,yH,zD7 (k:=9) (fun _=>rfl) h]
@[simp] theorem qEW (d:Edg):(zBo d).length=9:=rfl
@[simp] theorem qEV (d:Edg):(zBo d).take 9=zBo d:=jAk (jA _)
@[simp] theorem qCO (d:Edg)(l:List A):(zBo d++l).take 9=zBo d:=by rw[jBr (by simp)]; exact jAk (by simp)
@[simp] theorem qD6 (d:Edg):jF (zBo d)=zBo d:=(zFX d).1
@[simp] theorem qLe (d:Edg) {rf g}:vwL rf g (zBo d)=zBo d:=(zFX d).2 _ _
@[simp] theorem zMw (e:Edg)(k:Nat):zBq k (zBo e)=true:=by simp[zBo]
@[simp] theorem qAA (l:List Edg)(k:Nat):zBq k (yH l)=true:=by
 induction l with
 | nil=>rfl
 | cons e l ih=>rw[zEW,zFN,ih,zMw]; rfl
def qAe:K:=G [kO 2 0,kO 3 1,kMi 4 0] (G [D 5 2 0,J 6 5 3,D 7 3 0,J 8 7 3,kC 9 147 [(kt 6),(kt 8)],M 4 9] kr)
theorem qHL:zQ Tryz.prog Tryz.f146.ntmps (Tryz.f146.body.getD .skip)=some qAe.erase:=by kernel_rfl
@[simp] theorem qL3:zB Tryz.prog 146=true:=by kernel_rfl
theorem zRa (x y:Edg):Ret Tryz.prog 146 [.agg (zBo x),.agg (zBo y)] [] (int (zIN x.id y.id)) []:=by refine zH Tryz.func146 rfl qHL (rs:=[.slot 4]) (by kernel_rfl) ?_;unfold qAe;simp -implicitDefEqProofs [zBo];refine qE (zTO x.id y.id) (by simp[zG]) (by simp) ?_;simp -implicitDefEqProofs;exact zA 0 (by simp)
def zZ9:Go.Shelf.Ren:=⟨fun | 6=>145 | 15=>121 | 14=>172 | 28=>165 | 29=>166 | 20=>187 | 21=>188 | 22=>189 | 23=>190 | 24=>191 | 25=>192 | 26=>193 | 27=>194 | 46=>201 | 49=>202 | 50=>203 | 57=>209 | 47=>182 | 48=>183 | n=>n,fun | 22=>149 | 24=>155 | 25=>202 | 3=>3 | 39=>181 | 0=>0 | 53=>222 | 55=>224 | 4=>4 | 46=>215 | 45=>214 | 50=>219 | 5=>5 | 9=>9 | 66=>241 | 70=>245 | 76=>256 | 77=>257 | n=>n,fun n=>n⟩
theorem zTd:Go.Proofs.SlLaysF0.n6 Tryz.prog zZ9:={
 mixed:=by kernel_rfl,
 f6:=⟨Tryz.f145.name,by decide,Tryz.func145.trans (congrArg some (by kernel_rfl))⟩,
 f14:=⟨Tryz.f172.name,by decide,Tryz.func172.trans (congrArg some (by kernel_rfl))⟩,
 f15:=Tryz.func121.trans (congrArg some (by kernel_rfl)),
 f20:=⟨Tryz.f187.name,by decide,Tryz.func187.trans (congrArg some (by kernel_rfl))⟩,
 f21:=⟨Tryz.f188.name,by decide,Tryz.func188.trans (congrArg some (by kernel_rfl))⟩,
 f22:=⟨Tryz.f189.name,by decide,Tryz.func189.trans (congrArg some (by kernel_rfl))⟩,
 f23:=⟨Tryz.f190.name,by decide,Tryz.func190.trans (congrArg some (by kernel_rfl))⟩,
 f24:=⟨Tryz.f191.name,by decide,Tryz.func191.trans (congrArg some (by kernel_rfl))⟩,
 f25:=⟨Tryz.f192.name,by decide,Tryz.func192.trans (congrArg some (by kernel_rfl))⟩,
 f26:=⟨Tryz.f193.name,by decide,Tryz.func193.trans (congrArg some (by kernel_rfl))⟩,
 f27:=⟨Tryz.f194.name,by decide,Tryz.func194.trans (congrArg some (by kernel_rfl))⟩,
 f28:=Tryz.func165.trans (congrArg some (by kernel_rfl)),
 f29:=Tryz.func166.trans (congrArg some (by kernel_rfl)),
 f46:=⟨Tryz.f201.name,by decide,Tryz.func201.trans (congrArg some (by kernel_rfl))⟩,
 f47:=Tryz.func182.trans (congrArg some (by kernel_rfl)),
 f48:=Tryz.func183.trans (congrArg some (by kernel_rfl)),
 f49:=⟨Tryz.f202.name,by decide,Tryz.func202.trans (congrArg some (by kernel_rfl))⟩,
 f50:=⟨Tryz.f203.name,by decide,Tryz.func203.trans (congrArg some (by kernel_rfl))⟩,
 f57:=⟨Tryz.f209.name,by decide,Tryz.func209.trans (congrArg some (by kernel_rfl))⟩,
 t0:=Tryz.underlying0,
 a0:=Tryz.isAgg0,
 z0:=Tryz.sizeOf0,
 v0:=Tryz.zeroValue0,
 t3:=Tryz.underlying3,
 a3:=Tryz.isAgg3,
 z3:=Tryz.sizeOf3,
 v3:=Tryz.zeroValue3,
 t4:=Tryz.underlying4,
 a4:=Tryz.isAgg4,
 z4:=Tryz.sizeOf4,
 v4:=Tryz.zeroValue4,
 t5:=Tryz.underlying5,
 a5:=Tryz.isAgg5,
 z5:=Tryz.sizeOf5,
 v5:=Tryz.zeroValue5,
 t9:=Tryz.underlying9,
 a9:=Tryz.isAgg9,
 z9:=Tryz.sizeOf9,
 v9:=Tryz.zeroValue9,
 t22:=Tryz.underlying149,
 a22:=Tryz.isAgg149,
 z22:=Tryz.sizeOf149,
 v22:=Tryz.zeroValue149,
 t25:=Tryz.underlying202,
 a25:=Tryz.isAgg202,
 z25:=Tryz.sizeOf202,
 v25:=Tryz.zeroValue202,
 t39:=Tryz.underlying181,
 a39:=Tryz.isAgg181,
 z39:=Tryz.sizeOf181,
 v39:=Tryz.zeroValue181,
 t45:=Tryz.underlying214,
 a45:=Tryz.isAgg214,
 z45:=Tryz.sizeOf214,
 v45:=Tryz.zeroValue214,
 t46:=Tryz.underlying215,
 a46:=Tryz.isAgg215,
 z46:=Tryz.sizeOf215,
 v46:=Tryz.zeroValue215,
 t50:=Tryz.underlying219,
 a50:=Tryz.isAgg219,
 z50:=Tryz.sizeOf219,
 v50:=Tryz.zeroValue219,
 t53:=Tryz.underlying222,
 a53:=Tryz.isAgg222,
 z53:=Tryz.sizeOf222,
 v53:=Tryz.zeroValue222,
 t55:=Tryz.underlying224,
 a55:=Tryz.isAgg224,
 z55:=Tryz.sizeOf224,
 v55:=Tryz.zeroValue224,
 t66:=Tryz.underlying241,
 a66:=Tryz.isAgg241,
 z66:=Tryz.sizeOf241,
 v66:=Tryz.zeroValue241,
 t70:=Tryz.underlying245,
 a70:=Tryz.isAgg245,
 z70:=Tryz.sizeOf245,
 v70:=Tryz.zeroValue245,
 t76:=Tryz.underlying256,
 a76:=Tryz.isAgg256,
 z76:=Tryz.sizeOf256,
 v76:=Tryz.zeroValue256,
 t77:=Tryz.underlying257,
 a77:=Tryz.isAgg257,
 z77:=Tryz.sizeOf257,
 v77:=Tryz.zeroValue257}
@[simp] theorem qI6:zB Tryz.prog 145=true:=by kernel_rfl
theorem zYD:∀args w,(callFunc 146 args).run Tryz.prog w=.ok (.enter 146 args) w:=enters_of Tryz.func146 (by kernel_rfl) rfl
def zV0 (E:List Edg):Prop:=∀a∈E,∀b∈E,a.id=b.id→a=b
abbrev zOB (E:List Edg):={e:Edg // e∈E}
def zTN {E:List Edg}(a b:zOB E):Int:=zIN a.1.id b.1.id
theorem zLp {E:List Edg}(h:zV0 E):Ord (zTN (E:=E)) where
 irrefl x:=zDJ.irrefl _
 trans x y z:=zDJ.trans _ _ _
 ntrans x y z:=zDJ.ntrans _ _ _
 anti x y a b:=Subtype.ext (h _ x.2 _ y.2 (zDJ.anti _ _ a b))
theorem qEa {E:List Edg}(h:zV0 E):zN9 Tryz.prog 145 146 (fun e:zOB E=>zBo e.1) zTN :=
 zXL (k:=9) (fun _=>rfl) (zLp h) (fun a b=>zRa a.1 b.1) fun α _ enc hk h1 cf hO blk off cap d w hcmp hH hblk hsz =>
  Go.Proofs.AnyQ.slices_SortFunc zTd 9 Tryz.isAgg155 Tryz.sizeOf155 enc hk h1 cf hO 146 #[] blk off cap d w zYD hcmp hH hblk hsz
theorem qKc:∀(p:Option Addr) (cap:Nat) (fv:Value) (w:World),Calls Tryz.prog 145 #[.slice p 0 cap,fv] w fun e w'=>e=.returned (.tuple #[])∧w'=w :=
 fun p cap fv w=>Go.Proofs.AnyF.slices_SortFunc_none zTd p cap fv w
def zLQ (E:List Edg):List Edg:=(zEm (zTN (E:=E)) (E.attach)).map (·.1)
theorem zPu {E:List Edg}(l:List (zOB E)):l.flatMap (fun e=>zBo e.1)=yH (l.map (·.1)):=by
 induction l with
 | nil=>rfl
 | cons e l ih=>rw[jBi,ih,jAc,zEW]
theorem zXJ {E:List Edg}(h:zV0 E)(hmx:E.length<4611686018427387904):Ret Tryz.prog 145 [.row 0 E.length,.clo 146 [] []] [.row false 155 9 E.length (yH E)] (.tup []) [.row false 155 9 E.length (yH (zLQ E))]:=by have:=zQ8 (sz:=9) (by omega) (fun _=>rfl) (fun b:zOB E=>zMw b.1 0) (zLp h) 155 (qEa h) qKc E.attach (by simpa using hmx);rw[zPu,zPu,List.length_attach]at this;rw[show (E.attach.map (·.1))=E from List.attach_map_subtype_val E]at this;exact this
theorem zCR (E:List Edg):(zLQ E).Perm E:=by have h:=(List.mergeSort_perm E.attach fun x y=>!decide (zTN y x<0)).map (·.1);rw[show (E.attach.map (·.1))=E from List.attach_map_subtype_val E]at h;exact h
theorem zXK {E:List Edg}(h:zV0 E)(hn:E.Nodup):SS ((zLQ E).map (·.id)):=by
 have ho:=zLp h;have hs:=List.pairwise_mergeSort (le:=fun x y:zOB E=>!decide (zTN y x<0)) (fun a b c h1 h2=>by simp only[jBd,decide_eq_false_iff_not]at *; exact ho.ntrans c b a h2 h1)
  (fun a b=>by
   simp only[jAu,jBd,decide_eq_false_iff_not];by_cases h:zTN b a<0
   ·exact .inr fun h'=>ho.irrefl _ (ho.trans _ _ _ h h')
   ·exact .inl h) E.attach
 have hnd:(zLQ E).Nodup:=(zCR E).nodup_iff.2 hn;unfold SS;rw[jDe];have h1:(zLQ E).Pairwise fun a b=>¬zIN b.id a.id<0:=by
  unfold zLQ;rw[jDe];exact hs.imp fun hab=>by simp only[jBd]at hab;exact of_decide_eq_false hab
 have h2:=List.Pairwise.and h1 hnd;have h3:=List.Pairwise.and_mem.1 h2;exact h3.imp fun {a b} ⟨ha,hb,hc,hne⟩=>by
  cases hl:zA8 a.id b.id with
  | true=>rfl
  | false =>
   rw[zE0]at hc;have hba:zA8 b.id a.id=false:=by simpa using hc
   exact(hne (h a ((zCR E).mem_iff.1 ha) b ((zCR E).mem_iff.1 hb) (zDI hl hba))).elim
def qAf:K:=G [kO 1 0,kMn 2] (G [kMn 3] (Z (G [D 6 1 1,L 7 6 1,kN 8 7,kMi 9 0] (K.block 0 (K.loop (G [kB 10 9 8 .lss] (Z (Y 10 ks (K.exit 0)) (Z (K.block 1 (G [kX 11 7 9 31,J 12 11 31,kZ 5 kz0,S 5 12 31] (G [D 13 5 3,L 14 13 1,kQi 15 14 5 false,M 16 15,T 16 true (D 17 5 8),T 16 true (L 18 17 1),T 16 true (kN 19 18),T 16 true (kQi 20 19 1 false),kPf 21 16 20,M 22 21,T 22 true (D 23 5 8),T 22 true (L 24 23 1),T 22 true (kXi 25 24 11 0),T 22 true (D 26 25 4),T 22 true (D 27 26 0),T 22 true (L 28 27 1),T 22 true (kQi 29 28 3 false),kPf 30 22 29,M 31 30,T 31 true (D 32 5 9),T 31 true (D 33 32 0),T 31 true (L 34 33 1),T 31 true (kQi 35 34 3 false),kPf 36 31 35] (Y 36 (K.dops [(0,0,M 37 3),(1,0,D 38 5 0),(2,0,J 39 38 3),(3,0,D 40 5 8),(4,0,L 41 40 1),(5,0,kXi 42 41 11 0),(6,0,D 43 42 4),(7,0,D 44 43 1),(8,0,J 45 44 3),(9,0,D 46 5 9),(10,0,D 47 46 1),(11,0,J 48 47 3),(12,0,kb 49 [ki,ki,ki,ki,ki,ki,ki,ki,ki] [(0,3,(kt 39)),(3,3,(kt 45)),(6,3,(kt 48))]),(13,0,kd 50 155 9 1 [ki,ki,ki,ki,ki,ki,ki,ki,ki] [(0,9,(kt 49))]),(14,0,kP 51 155 9 72 37 50),(15,0,M 3 51)]) ks)))) (K.ops [kBi 52 9 1 .add,M 9 52]))))))) (G [M 53 3,kC 54 145 [(kt 53),(.func 146)]] (G [M 55 3,M 2 55] kr))))
theorem qHM:zQ Tryz.prog Tryz.f98.ntmps (Tryz.f98.body.getD .skip)=some qAf.erase:=by kernel_rfl
@[simp] theorem qL4:zB Tryz.prog 98=true:=by kernel_rfl
def zDi (p:Prg):List Edg:=p.defs.filterMap yJ
theorem zKN {p:Prg}{hs:List Hd}(hf:Fit p hs):zV0 (zDi p)∧(zDi p).Nodup:=by
 have hnd:=hf.nd;have key:∀(l:List Dfn),l.Pairwise (fun a b=>a.id≠b.id)→((l.filterMap yJ).map (·.id)).Nodup:=by
  intro l;induction l with
  | nil=>intro _; simp
  | cons d l ih =>
   intro h;have h':=jBq.1 h;rw[List.filterMap_cons];cases he:yJ d with
   | none=>exact ih h'.2
   | some e =>
    simp only[jAc,jD1];refine⟨fun hm=>?_,ih h'.2⟩;obtain⟨e',he',hid⟩:=jAn.1 hm;obtain⟨d',hd',hde⟩:=jCo.1 he';rw[zE2 he,zE2 hde]at hid;exact h'.1 d' hd' hid.symm
 have hk:=key _ hnd;constructor
 ·intro a ha b hb hab;obtain⟨i,hi,rfl⟩:=jAo ha;obtain⟨j,hj,rfl⟩:=jAo hb;have hab':((zDi p).map (·.id))[i]'(by simpa using hi)=((zDi p).map (·.id))[j]'(by simpa using hj):=by simpa using hab
  have hij:=(List.getElem_inj hk).1 hab';subst hij;rfl
 ·exact List.Pairwise.of_map (·.id) (fun a b h e=>h (by rw[e])) hk
theorem zGz {p:Prg}{hs:List Hd}(hf:Fit p hs):zLQ (zDi p)=zBj p:=by
 obtain⟨h1,h2⟩:=zKN hf;refine zNN hf (zXK h1 h2) fun e=>?_
 rw[(zCR _).mem_iff];unfold zDi;rw[jCo]
theorem zWi {p:Prg}{hs:List Hd}(hf:Fit p hs):Ret Tryz.prog 98 [.agg (zK p)] [] (.sl (zBj p).length (yH (zBj p))) []:=by
 have hP:=eP p;have hL:=hf.len8;refine zH Tryz.func98 rfl qHM (rs:=[.slot 2]) (by kernel_rfl) ?_;unfold qAf;simp -implicitDefEqProofs [hP];intro hlm;have hlen:∀i,((p.defs.take i).filterMap yJ).length≤100:=fun i=>by have:=jDl yJ (p.defs.take i);rw[jAp]at this;omega
 refine jR (S:=Nat) (fun i=>[(3,.row 1 ((p.defs.take i).filterMap yJ).length),(7,.sl p.defs.length (qI p.defs)),(8,int p.defs.length),(9,int i)]) (fun i=>[.box (zK p),.row false 155 9 ((p.defs.take i).filterMap yJ).length (yH ((p.defs.take i).filterMap yJ))])
  (fun i=>i≤p.defs.length) (fun i=>p.defs.length-i) 0 (by simp)
  ((zAG (t:=3) (by simp) 155 9).trans (zP [0,1] 0 (by decide) (by simp) (by simp[hP]) (by simp))) ?_
 intro i hi;have hln:=hlen i;by_cases h:i<p.defs.length
 ·have hw:=zAz i (by omega);have hts:p.defs.take (i+1)=p.defs.take i++[p.defs[i]]:=jA9 h;generalize hE:(p.defs.take i).filterMap yJ=E at *
  have hE':(p.defs.take (i+1)).filterMap yJ=E++(yJ p.defs[i]).toList:=by rw[hts,List.filterMap_append,hE];cases h:yJ p.defs[i]<;>simp[List.filterMap_cons,h]
  simp -implicitDefEqProofs [hP,h,zAH h];generalize hd:p.defs[i]=d at *
  by_cases hk:d.kind=5
  ·match hsl:d.slots with
   | [s] =>
    have hcs:yN [s]=yK s:=by simp[yN]
    by_cases h3:s.typ.k=3
    ·by_cases h4:d.res.k=3
     ·have hed:yJ d=some ⟨d.id,s.typ.id,d.res.id⟩:=by simp[yJ,hk,hsl,h3,h4]
      rw[hed]at hE';simp -implicitDefEqProofs [zF,hk,hsl,hcs,yK,h3,h4];exact fun _=>⟨⟨by simp[maxLen]; omega,by omega⟩,zO (i+1) h (by omega) (zP [0,1] 0 (by decide) (by simp) (by simp[hP,hE',zKA,zEW,zBo]) (by simp[hw,hE']))⟩
     ·have hed:yJ d=none:=by simp[yJ,hk,hsl,h4]
      rw[hed]at hE';simp -implicitDefEqProofs [zF,hk,hsl,hcs,yK,h3,h4]
      first | exact fun _=>zO (i+1) h (by omega) (zP [0,1] 0 (by decide) (by simp) (by simp[hP,hE']) (by simp[hw,hE'])) | exact zO (i+1) h (by omega) (zP [0,1] 0 (by decide) (by simp) (by simp[hP,hE']) (by simp[hw,hE']))
    ·have hed:yJ d=none:=by simp[yJ,hk,hsl,h3]
     rw[hed]at hE';simp -implicitDefEqProofs [zF,hk,hsl,hcs,yK,h3]
     first | exact fun _=>zO (i+1) h (by omega) (zP [0,1] 0 (by decide) (by simp) (by simp[hP,hE']) (by simp[hw,hE'])) | exact zO (i+1) h (by omega) (zP [0,1] 0 (by decide) (by simp) (by simp[hP,hE']) (by simp[hw,hE']))
   | [] =>
    have hed:yJ d=none:=by simp[yJ,hsl]
    rw[hed]at hE';simp -implicitDefEqProofs [zF,hk,hsl]
    first | exact fun _=>zO (i+1) h (by omega) (zP [0,1] 0 (by decide) (by simp) (by simp[hP,hE']) (by simp[hw,hE'])) | exact zO (i+1) h (by omega) (zP [0,1] 0 (by decide) (by simp) (by simp[hP,hE']) (by simp[hw,hE']))
   | s::s'::l =>
    have hed:yJ d=none:=by simp[yJ,hsl]
    rw[hed]at hE';have h1:¬((l.length:Int)+1+1=1):=by omega
    simp -implicitDefEqProofs [zF,hk,hsl,h1]
    first | exact fun _=>zO (i+1) h (by omega) (zP [0,1] 0 (by decide) (by simp) (by simp[hP,hE']) (by simp[hw,hE'])) | exact zO (i+1) h (by omega) (zP [0,1] 0 (by decide) (by simp) (by simp[hP,hE']) (by simp[hw,hE']))
  ·have hed:yJ d=none:=by simp[yJ,hk]
   rw[hed]at hE';simp -implicitDefEqProofs [zF,hk];exact zO (i+1) h (by omega) (zP [0,1] 0 (by decide) (by simp) (by simp[hP,hE']) (by simp[hw,hE']))
 ·have hi':i=p.defs.length:=by omega
  subst hi';have hE:(p.defs.take p.defs.length).filterMap yJ=zDi p:=by rw[jB0]; rfl
  rw[hE];have hle:(zDi p).length≤100:=by have:=jDl yJ p.defs; unfold zDi; omega
  obtain⟨g1,g2⟩:=zKN hf;simp -implicitDefEqProofs [hP];refine jO (zXJ g1 (by omega)) [1] (by simp) (by simp) (by simp) ?_;simp -implicitDefEqProofs [hP];rw[zGz hf,show (zDi p).length=(zBj p).length by rw[←zGz hf]; exact(zCR _).length_eq.symm];exact zA 1 (by simp)
end Go.Proofs.YtdnelmeboihpkaaGreatDoor
