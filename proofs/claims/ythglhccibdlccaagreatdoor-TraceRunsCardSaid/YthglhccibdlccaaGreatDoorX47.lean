/-
  eval.do: the closure that recovers.
  The reference's Call.
  eval.do: an evaluation whose failure is recovered.
  The reference tracer's Call returns what the program's does.
  eval.Call.
  The law TraceCalls, walked.
  The law TraceRuns, walked.
-/
import Derived.Test.YthglhccibdlccaaGreatDoorX46
import Derived.Test.YthglhccibdlccaaGreatDoorX21
import Derived.RecoverIn
import Derived.Tactics
import Derived.Tactics2
import Derived.Test.YthglhccibdlccaaGreatDoorX45
import Derived.Test.YthglhccibdlccaaGreatDoorX42
import Derived.Test.YthglhccibdlccaaGreatDoorX29
set_option linter.unusedVariables false
set_option linter.unusedSimpArgs false
namespace Go.Proofs.YthglhccibdlccaaGreatDoor
open Go Go.Abs
theorem zRX (pv ps pe:Value)(w:World) :
 CallsDIn Fence.wide 0 Tryz.prog 112 #[pv,ps,pe] .returning w fun e u' w'=>e=.returned (.tuple #[])∧u'=.returning∧w'=w:=by
 refine callsDIn_of_wpSIn Tryz.func112 rfl trivial fun c₀ cs hu=>?_
 apply wpSIn_seq;apply wpSIn_region;simp[wpOpsSIn,go_sem,recoverD,hu,Tryz.ntmps112,Exit.thenS];apply wpSIn_seq;apply wpSIn_region;simp[wpOpsSIn,go_sem,Exit.thenS];refine wpSIn_cond (t:=false) (by simp[Act.eval,Array.replicate]) ?_;simp only[Bool.false_eq_true,if_false];refine wpSIn_of_wpIn rfl (wpIn_skip ?_);cases c₀;simp_all [bodyPostS,results,Tryz.results112]
theorem zYr (k:Int)(w:World):(Instr.typeAssert (zNL k) 20 51 true).run Tryz.prog w=.ok (.tuple #[.int .i64 k,.bool true]) w:=by
 have hu:Tryz.prog.underlying 51=some (.int .i64):=by kernel_rfl
 simp[Instr.typeAssert,run_underlying hu]
def qFd:List KG:=[⟨none,.build (some 17) [(.int .i64 0),(.int .i64 0),(.slice none 0 0)] []⟩,⟨none,.mov (some 18) (.tmp 4)⟩,⟨none,.st none (.tmp 0) (.tmp 17) 3⟩,⟨none,.st none (.tmp 1) (.const (.int .i64 0)) 1⟩,⟨none,.st none (.tmp 2) (.tmp 18) 1⟩]
theorem zNI {H:Mem}{L:List LI} {σ : St}{w:World}{vs:List Value}{q0 q1 q2:Nat}{k:Int}{older:List PanicEntry}(hs:RelSt H L σ w)(hv:zX H L [.ptr q0 0,.ptr q1 0,.ptr q2 0] vs)
 {x0 y0 z0 x1 x2:A}(b0 : σ[q0]?=some (.box [x0,y0,z0]))(b1 : σ[q1]?=some (.box [x1]))(b2 : σ[q2]?=some (.box [x2]))(n1:q0≠q1)(n2:q0≠q2)(n3:q1≠q2) :
 CallsDIn Fence.wide 0 Tryz.prog 112 vs.toArray (.panicking ({v:=zNL k,recovered:=false}::older)) w fun e u' w'=>e=.returned (.tuple #[])∧u'=.panicking ({v:=zNL k,recovered:=true}::older) ∧
  ∃H' L',Nxt H L w H' L' (((σ.set q0 (.box [int 0,int 0,.nil])).set q1 (.box [int 0])).set q2 (.box [int k])) w':=by
 obtain⟨pv,vs',rfl,h0,hv⟩:=qA hv;obtain⟨ps,vs',rfl,h1,hv⟩:=qA hv;obtain⟨pe,vs',rfl,h2,hv⟩:=qA hv;rw[jI hv];refine callsDIn_of_wpSIn Tryz.func112 rfl trivial fun c₀ cs hu=>?_
 apply wpSIn_seq;apply wpSIn_region;simp[wpOpsSIn,go_sem,recoverD,hu,Tryz.ntmps112,Exit.thenS];apply wpSIn_seq;apply wpSIn_region;simp[wpOpsSIn,go_sem,Exit.thenS];refine wpSIn_cond (t:=true) (by simp[Act.eval,Array.replicate]) ?_;simp only[if_true];apply wpSIn_seq;apply wpSIn_region;simp[wpOpsSIn,go_sem,Exit.thenS,zYr];apply wpSIn_seq;apply wpSIn_seq;apply wpSIn_region;simp[wpOpsSIn,go_sem,Exit.thenS];refine wpSIn_cond (t:=false) (by simp[Act.eval,Array.replicate]) ?_;simp only[Bool.false_eq_true,if_false];refine wpSIn_of_wpIn rfl (wpIn_skip ?_);simp only[Exit.thenS];refine wpSIn_of_wpIn rfl ?_;refine zKE (n0:=L.length) (hint:=zAk) (l:=qFd) (by kernel_rfl) (Q:=fun x env τ=>x=.norm∧τ = ((σ.set q0 (.box [int 0,int 0,.nil])).set q1 (.box [int 0])).set q2 (.box [int k])) (N:=19) (env:=qT [(0,.ptr q0 0),(1,.ptr q1 0),(2,.ptr q2 0),(4,int k)]) ?_ hs ?_ fun e a' w' hp=>?_
 ·refine⟨by simp,fun t=>?_⟩;rcases zEk [(0,.ptr q0 0),(1,.ptr q1 0),(2,.ptr q2 0),(4,int k)] t with h | h
  ·rw[h]; simp[Rel]
  ·generalize qT [(0,.ptr q0 0),(1,.ptr q1 0),(2,.ptr q2 0),(4,int k)] t=a at h;simp only[List.mem_cons,Prod.mk.injEq,List.not_mem_nil,or_false]at h;rcases h with ⟨rfl,rfl⟩ | ⟨rfl,rfl⟩ | ⟨rfl,rfl⟩ | ⟨rfl,rfl⟩
   ·simpa using h0
   ·simpa using h1
   ·simpa using h2
   ·simp[Rel,Array.getElem?_append]
 ·unfold qFd;simp[b0,b1,b2,n1,n2,n3,List.getElem?_set]
 ·obtain⟨x,env',τ,H',L',rfl,g2,g3,g4,rfl,rfl⟩:=hp;refine⟨g2,_,rfl,.tuple #[],?_,rfl,rfl,H'.1,H'.2,L',g4⟩;simp[results,Tryz.results112]
end Go.Proofs.YthglhccibdlccaaGreatDoor
namespace Go.Proofs.YthglhccibdlccaaGreatDoor
open Go.Abs
section
variable {p:Prg}{ev:Evl}
end
@[simp] theorem qNP:zA Tryz.prog 49=true:=by kernel_rfl
end Go.Proofs.YthglhccibdlccaaGreatDoor
namespace Go.Proofs.YthglhccibdlccaaGreatDoor
open Go Go.Abs
def qHM:List KG:=[⟨none,.box (some 3) (.tmp 0)⟩,⟨none,.alloc (some 6) [(.int .i64 0),(.int .i64 0),(.slice none 0 0)]⟩,⟨none,.alloc (some 7) [(.int .i64 0)]⟩,⟨none,.alloc (some 8) [(.int .i64 0)]⟩]
def qHN:List KG:=[⟨none,.ld (some 10) (.tmp 3) 2 true⟩,⟨none,.mov (some 11) (.tmp 1)⟩,⟨none,.mm (some 12) true [(.tmp 11),(.const (.int .i64 0))]⟩,
 ⟨none,.build (some 13) [(.slice none 0 0),(.slice none 0 0),(.int .i64 0),(.int .i64 0)] [(0,2,(.tmp 10)),(2,1,(.tmp 12))]⟩,⟨none,.box (some 14) (.tmp 13)⟩,⟨none,.mov (some 9) (.tmp 14)⟩]
def zXG:List KG:=[⟨none,.mov (some 16) (.tmp 2)⟩,⟨none,.mov (some 17) (.tmp 9)⟩,⟨none,.call (some 18) (.tmp 16) [(.tmp 17)]⟩,⟨none,.st none (.tmp 6) (.tmp 18) 3⟩]
def qHO:List KG:=[⟨none,.addr (some 19) (.tmp 6) 2⟩,⟨none,.ld (some 20) (.tmp 19) 1 false⟩,⟨none,.call (some 21) (.func 113) [(.tmp 20)]⟩,⟨none,.addr (some 22) (.tmp 6) 2⟩,⟨none,.st none (.tmp 22) (.tmp 21) 1⟩]
def qHP:List (Nat×Nat×KG):=[(0,0,⟨none,.ld (some 23) (.tmp 6) 3 true⟩),(1,0,⟨none,.mov (some 24) (.tmp 9)⟩),(2,0,⟨none,.nilc (some 25) (.tmp 24)⟩),(3,2,⟨none,.addr (some 26) (.tmp 25) 3⟩),(4,2004,⟨none,.ld (some 27) (.tmp 26) 1 false⟩),
 (5,1004,⟨none,.st none (.tmp 6) (.tmp 23) 3⟩),(6,0,⟨none,.st none (.tmp 7) (.tmp 27) 1⟩),(7,0,⟨none,.st none (.tmp 8) (.const (.int .i64 0)) 1⟩)]
def hDo:Nat→Option (List (Nat×Nat)):=fun r=>match r with | 5=>some [(0,0),(1,0),(2,0),(3,2),(4,2004),(5,1004),(6,0),(7,0)] | _=>none
def dfr (pv ps pe:Value):Deferred:={target:=.fn (.func 112) #[pv,ps,pe],args:=#[]}
abbrev sDo (D:St)(p:Prg)(F:Int)(v:Val)(n e:Int)(s:XS):St:=D++[.box (zU p),.box (zI v),.box [int n],.box [int e]]++eS p F s
def zK7 (F:Int)(r:Val×XS):A:=if r.2.fail=0 then .tup [.agg (zI r.1),int (F-r.2.fuel),int 0] else .tup [.agg (zI vz),int 0,int r.2.fail]
def qA0:K:=G [kZ 4 [ki,ki,kl]] (G [M 5 0,J 6 1 31,L 7 2 1,kC 8 68 [(kt 5),(kt 6),(kt 7)],S 4 8 3] kr)
theorem qG0:zL Tryz.prog Tryz.f67.ntmps (Tryz.f67.body.getD .skip)=some qA0.erase:=by kernel_rfl
@[simp] theorem qMN:zA Tryz.prog 67=true:=by kernel_rfl
section
variable {p:Prg}{F:Int}{d:Dfn}{us:List Val}{s:XS}{r:Val×XS}
abbrev dA (d:Dfn)(us:List Val):St:=[.box (zP d),.box [.sl us.length (zV us)]]
abbrev qOC (F:Int):List (Nat×A):=[(1,int F),(2,.clo 67 [] [.ptr 0 0,.ptr 1 0]),(3,.ptr 2 0),(6,.ptr 3 0),(7,.ptr 4 0),(8,.ptr 5 0)]
abbrev zPT:List (Nat×A):=[(2,.clo 67 [] [.ptr 0 0,.ptr 1 0]),(6,.ptr 3 0),(7,.ptr 4 0),(8,.ptr 5 0),(9,.ptr 6 0)]
theorem qBz (hF0:0≤F)(hs:s.fuel=F)(hz:r.2.fail=0→qH r.1≤256)
 (hret:r.2.fail=0→Ret Tryz.prog 67 [.ptr 0 0,.ptr 1 0,.ptr 2 0] (eS p F s++dA d us) (.agg (zI r.1)) (eS p F r.2++dA d us))
 (hpan:r.2.fail≠0→yN Tryz.prog 67 [.ptr 0 0,.ptr 1 0,.ptr 2 0] (eS p F s++dA d us) fun o σ'=>o=.pan (zNL r.2.fail)∧σ'[1]?=some (.box (zP d))∧σ'[2]?=some (.box [.sl us.length (zV us)])) :
 Ret Tryz.prog 66 [.agg (zU p),int F,.clo 67 [] [.ptr 0 0,.ptr 1 0]] (dA d us) (zK7 F r) (dA d us):=by
 have hP:=eP p;refine zES (fun H L w vs hst hargs=>?_);have hL:L.length=2:=hst.len
 suffices h:∀R:Ending→World→Prop,(∀(v:Value) (σ':St) (H':Mem) (L':List LI) (w':World) (r':A),Rel H' L' r' v→Nxt H L w H' L' σ' w'→zHa 2 (zK7 F r) (dA d us) (.ret r') σ'→R (.returned v) w')→CallsIn Fence.wide 0 Tryz.prog 66 vs.toArray w R from
  callsIn_wide.1 (h _ fun v σ' H' L' w' r' g1 g2 g3=>⟨.ret r',σ',H',L',⟨v,rfl,g1⟩,g2,g3⟩)
 intro R hR;refine callsIn_of_wp_defers (n:=0) (F:=Fence.wide) Tryz.func66 rfl trivial ?_;refine zHH (n0:=2) (hint:=hDo) (l:=qHM) (N:=28) (by kernel_rfl) (zIM hargs _) hst (Q:=fun x env τ=>x=.norm∧zBz 2 (qT (qOC F))
  (dA d us++[.box (zU p),.box (zI vz),.box [int 0],.box [int 0]]) env τ) ?_ (fun env' τ H' L' w' a' hd' he' hn' hq'=>?_) (fun x _ _ _ _ _ _ hx _ _ _ hq=>(hx hq.1).elim)
 ·unfold qHM;simp[hP];exact zS [0,1,2,3,4,5] 0 (by decide) (by simp) (by simp[zI,qG,zY,zM]) (by simp)
 obtain⟨H',L',hn',he'⟩:=hq'.2 _ _ _ _ _ _ _ _ hL hn' he';refine zHH (n0:=2) (hint:=hDo) (l:=qHN) (N:=28) (by kernel_rfl) he' hn'.st (Q:=fun x env τ=>x=.norm∧zBz 2 (qT zPT) (sDo (dA d us) p F vz 0 0 s) env τ)
  ?_ (fun env' τ H1 L1 w' a' hd'' he1 hn1 hq1=>?_) (fun x _ _ _ _ _ _ hx _ _ _ hq=>(hx hq.1).elim)
 ·unfold qHN;simp[hP];exact zS [0,1,2,3,4,5,6] 0 (by decide) (by simp) (by simp[zI,qG,zY,zM,eS,hP,hs]; omega) (by simp)
 rw[hd']at hd'';obtain⟨H',L',hn',he'⟩:=hq1.2 _ _ _ _ _ _ _ _ hL (hn'.trans hn1) he1;have hmf:∀(fn:Fn) (first cap:Array Value) (w:World),(Instr.makeFunc fn first cap).run Tryz.prog w=.ok (.func fn first cap) w:=fun _ _ _ _=>rfl
 have hsz:28≤a'.tmps.size:=he'.1;have hsz':15<a'.tmps.size:=by omega
 refine wpIn_seq (wpIn_region_list ?_);simp only[wpListIn];simp[Region.wanted,Oper.wpIn,Oper.uponIn,go_sem,hmf,Exit.then,hsz',hd'',wpListIn];have h6:=he'.2 6;have h7:=he'.2 7;have h8:=he'.2 8;rw[Array.getD_eq_getD_getElem?]at h6 h7 h8;have he3:∀X,qI H' L' 28 (qT zPT) (a'.tmps.setIfInBounds 15 X):=fun X=>by
  have:=he'.put (a:=a') (d:=some 15) (fun x hx=>by cases hx; omega) (r:=.any) (v:=X) (by simp[Rel]);have h15:Env.put (qT zPT) (some 15) .any=qT zPT:=by
   funext t;simp only[Env.put];split
   ·rename_i ht; subst ht; rfl
   ·rfl
  rw[h15]at this;exact this
 generalize a'.tmps[6]?.getD undef=pv at *
 generalize a'.tmps[7]?.getD undef=ps at *
 generalize a'.tmps[8]?.getD undef=pe at *
 have he3:=he3 (Value.func (Fn.func 112) #[] #[pv,ps,pe]);generalize a'.tmps.setIfInBounds 15 (Value.func (Fn.func 112) #[] #[pv,ps,pe])=tm at *
 have idle:∀(pv ps pe:Value) (tm:Array Value) (w3:World) (v:Value),(results Tryz.f66 tm).run Tryz.prog w3=.ok v w3→R (.returned v) w3→LeavesIn Fence.wide 0 Tryz.prog Tryz.f66 tm R [dfr pv ps pe] .returning w3:=fun pv ps pe tm w3 v g1 g2=>by refine leavesIn_cons (f:=112) (args:=#[pv,ps,pe]) (by simp) (by simp[Fence.wide]) (by simp[go_sem]) (fun _ _=>trivial) ?_;refine(zRX pv ps pe w3).mono ?_;rintro e u' w'' ⟨rfl,rfl,rfl⟩;exact⟨v,g1,g2⟩
 by_cases hf:r.2.fail=0
 ·refine zHH (n0:=2) (hint:=hDo) (l:=zXG) (N:=28) (by kernel_rfl) he3 hn'.st (Q:=fun x env τ=>x=.norm∧zBz 2 (qT zPT) (sDo (dA d us) p F r.1 0 0 r.2) env τ) ?_
   (fun env' τ H1 L1 w1 a1 hd1 he1 hn1 hq1=>?_) (fun x _ _ _ _ _ _ hx _ _ _ hq=>(hx hq.1).elim)
  ·unfold zXG;simp[eS,hP];refine zN (hret hf) [6,0,1] (by decide) (by simp[eS,hP]) (by simp) ?_;simp[eS,hP,zI];exact zS [0,1,2,3,4,5,6] 0 (by decide) (by simp) (by simp[zI]) (by simp)
  obtain⟨H',L',hn',he'⟩:=hq1.2 _ _ _ _ _ _ _ _ hL (hn'.trans hn1) he1;have hco:=zGC r.1.kids (by have:=hz hf; have:=zHJ r.1; omega);refine zHH (n0:=2) (hint:=hDo) (l:=qHO) (N:=28) (by kernel_rfl) he' hn'.st (Q:=fun x env τ=>x=.norm∧zBz 2 (qT zPT) (sDo (dA d us) p F r.1 0 0 r.2) env τ) ?_
   (fun env' τ H1 L1 w1 a1 hd2 he1 hn1 hq1=>?_) (fun x _ _ _ _ _ _ hx _ _ _ hq=>(hx hq.1).elim)
  ·unfold qHO;simp[eS,hP,zI];refine zR hco (by simp) (by simp) ?_;simp[eS,hP,zI];exact zS [0,1,2,3,4,5,6] 0 (by decide) (by simp) (by simp[zI]) (by simp)
  obtain⟨H',L',hn',he'⟩:=hq1.2 _ _ _ _ _ _ _ _ hL (hn'.trans hn1) he1;refine zVT (n0:=2) (hint:=hDo) (l:=qHP) (N:=28) (by kernel_rfl) he' hn'.st (Q:=fun x env τ=>x=.norm∧zBz 2 (qT zPT) (sDo (dA d us) p F r.1 (F-r.2.fuel) 0 r.2) env τ) ?_
   (fun env' τ H1 L1 w1 a1 hd3 he1 hn1 hq1=>?_) (fun x _ _ _ _ _ _ hx _ _ _ hq=>(hx hq.1).elim)
  ·unfold qHP;simp[eS,hP,zI];refine⟨(zHM (by decide) (by decide)).2 (by simp[zBG]),(zR4 (by decide) (by decide)).2 (by simp[zEF]),?_⟩;exact zS [0,1,2,3,4,5,6] 0 (by decide) (by simp) (by simp[zI]) (by simp)
  obtain⟨H',L',hn',he'⟩:=hq1.2 _ _ _ _ _ _ _ _ hL (hn'.trans hn1) he1;have hds:a1.defers=[dfr pv ps pe]:=hd3.trans (hd2.trans hd1);refine wpIn_ret ?_;show LeavesIn Fence.wide 0 Tryz.prog Tryz.f66 a1.tmps R a1.defers .returning w1;rw[hds];obtain⟨v,g1,g2⟩:=zFF (P:=Tryz.prog) (fn:=Tryz.f66) (rs:=[.cell 6 3 true,.cell 7 1 false,.cell 8 1 false]) (by kernel_rfl) he' hn'.st (a:=.tup [.agg (zI r.1),int (F-r.2.fuel),int 0]) (by simp[zQi,zAI,zDO,ldA,zI]);exact idle pv ps pe _ _ v g1 (hR v _ _ _ _ _ g2 hn' (zG [0,1] 0 (by decide) (by simp) (by simp) (by simp[zK7,hf,zI])))
 ·refine zHH (n0:=2) (hint:=hDo) (l:=zXG) (N:=28) (by kernel_rfl) he3 hn'.st (Q:=fun x env τ=>x=.pan (zNL r.2.fail)∧(env 6=.ptr 3 0∧env 7=.ptr 4 0∧env 8=.ptr 5 0)∧τ[0]?=some (.box (zP d))∧τ[1]?=some (.box [.sl us.length (zV us)]) ∧
   τ[3]?=some (.box [int 0,int 0,.sl 0 []])∧τ[4]?=some (.box [int 0])∧τ[5]?=some (.box [int 0])) ?_ (fun env' τ H1 L1 w1 a1 hd1 he1 hn1 hq1=>by cases hq1.1) (fun x env' τ H1 L1 w1 a1 hx hd1 he1 hn1 hq1=>?_)
  ·unfold zXG;simp[eS,hP];refine zHV (C:=fun vs w R=>Calls Tryz.prog _ vs.toArray w R) (zEy Tryz.prog _) (hpan hf) [6,0,1] (by decide) (by simp[eS,hP]) (by simp) fun o σ1 h0=>?_
   obtain⟨rfl,g1,g2⟩:=h0;have hlen:∀n,3≤(σ1.map (zB0 [6,0,1] n)).length:=fun n=>by rw[List.length_map];exact(List.getElem?_eq_some_iff.1 g2).1
   refine⟨rfl,⟨rfl,rfl,rfl⟩,?_,?_,?_,?_,?_⟩
   ·rw[zDt (js:=[6,0,1]) (hlen _) (by decide) (by simp) (i:=1) rfl,List.getElem?_map];simp[g1,zB0,vwO]
   ·rw[zDt (js:=[6,0,1]) (hlen _) (by decide) (by simp) (i:=2) rfl,List.getElem?_map];simp[g2,zB0,vwO]
   ·rw[zC9 (by simp) (by simp)];simp[zI,qG,zY,zM]
   ·rw[zC9 (by simp) (by simp)];simp
   ·rw[zC9 (by simp) (by simp)];simp
  ·obtain⟨rfl,⟨e6,e7,e8⟩,t0,t1,t3,t4,t5⟩:=hq1;have l3:=(List.getElem?_eq_some_iff.1 t3).1;have l4:=(List.getElem?_eq_some_iff.1 t4).1;have l5:=(List.getElem?_eq_some_iff.1 t5).1;have hds:a1.defers=[dfr pv ps pe]:=hd1;show LeavesIn Fence.wide 0 Tryz.prog Tryz.f66 a1.tmps R a1.defers (.panicking [{v:=zNL r.2.fail,recovered:=false}]) w1;rw[hds];refine leavesIn_cons (f:=112) (args:=#[pv,ps,pe]) (by simp) (by simp[Fence.wide]) (by simp[go_sem]) (fun _ _=>trivial) ?_;refine(zNI (vs:=[pv,ps,pe]) hn1.st (qS (Rel.mono hn1.step.hle hn1.lle _ h6) (qS (Rel.mono hn1.step.hle hn1.lle _ h7) (qS (Rel.mono hn1.step.hle hn1.lle _ h8) jP))) t3 t4 t5 (by decide) (by decide) (by decide)).mono ?_;rintro e u' w'' ⟨rfl,rfl,H2,L2,hn2⟩;obtain⟨v,g1,g2⟩:=zFF (P:=Tryz.prog) (fn:=Tryz.f66) (rs:=[.cell 6 3 true,.cell 7 1 false,.cell 8 1 false]) (by kernel_rfl) (he1.mono hn2.step.hle hn2.lle) hn2.st (a:=.tup [.agg [int 0,int 0,.nil],int 0,int r.2.fail])
    (by simp[zQi,zAI,zDO,ldA,e6,e7,e8,List.getElem?_set,l3,l4,l5])
   exact⟨v,g1,hR v _ _ _ _ _ g2 (hn'.trans (hn1.trans hn2)) (zG [0,1] 0 (by decide) (by simp) (by simp[t0,t1]) (by simp[zK7,hf,zI,qG,zY,zM]))⟩
end
end Go.Proofs.YthglhccibdlccaaGreatDoor
namespace Go.Proofs.YthglhccibdlccaaGreatDoor
open Go.Abs
@[simp] theorem qOi:zA Tryz.prog 14=true:=by kernel_rfl
end Go.Proofs.YthglhccibdlccaaGreatDoor
namespace Go.Proofs.YthglhccibdlccaaGreatDoor
open Go Go.Abs
section
variable {p:Prg}{F:Int}{d:Dfn}{us:List Val}{s:XS}{r:Val×XS}
theorem zU2 (hb:RP 68 [.ptr 0 0,.agg (zP d),.sl us.length (zV us)] p F s (.agg (zI r.1)) r.2)(hf:r.2.fail=0) :
 Ret Tryz.prog 67 [.ptr 0 0,.ptr 1 0,.ptr 2 0] (eS p F s++dA d us) (.agg (zI r.1)) (eS p F r.2++dA d us):=by
 have hP:=eP p;refine zK Tryz.func67 rfl qG0 (rs:=[.cell 4 3 true]) (by kernel_rfl) ?_;unfold qA0;simp[eS,hP];refine zN (hb.ret hf) [0] (by decide) (by simp[eS,hP]) (by simp) ?_;simp[eS,hP,zI];exact zG [0,1,2] 0 (by decide) (by simp) (by simp) (by simp[zI])
theorem zU1 (hb:RP 68 [.ptr 0 0,.agg (zP d),.sl us.length (zV us)] p F s (.agg (zI r.1)) r.2)(hf:r.2.fail≠0) :
 yN Tryz.prog 67 [.ptr 0 0,.ptr 1 0,.ptr 2 0] (eS p F s++dA d us) fun o σ'=>o=.pan (zNL r.2.fail)∧σ'[1]?=some (.box (zP d))∧σ'[2]?=some (.box [.sl us.length (zV us)]):=by
 have hP:=eP p;refine zFq Tryz.func67 rfl qG0 (rs:=[.cell 4 3 true]) (by kernel_rfl) ?_;unfold qA0 wpF;simp[eS,hP];refine zHh (hb.pan hf) [0] (by decide) (by simp[eS,hP]) (by simp) fun τ=>?_
 refine⟨rfl,?_,?_⟩
 ·rw[zC9 (by simp) (by simp)]; rfl
 ·rw[zC9 (by simp) (by simp)]; rfl
end
def qFe:K:=G [kO 2 0,kO 3 1,kZ 4 kz0,kMb 5 false] (G [J 9 2 2,J 10 3 3,kC 11 42 [(kt 9),(kt 10)],M 8 11,kE 12 8 0,kE 13 8 1,kZ 6 kz0,S 6 12 31,M 7 13] (Z (K.wk (K.dops [(0,0,J 14 6 31),(1,0,M 15 7),(2,0,M 16 15),(3,0,T 16 true (D 17 6 3)),(4,0,T 16 true (L 18 17 1)),(5,0,T 16 true (kQi 19 18 0 true)),(6,0,kPf 20 16 19),(7,0,M 21 20),(8,2,T 21 true (D 22 6 3)),(9,2,T 21 true (L 23 22 1)),(10,0,T 21 true (kQi 24 23 1 true)),(11,0,kPf 25 21 24),(12,0,S 4 14 31),(13,0,M 5 25)])) kr))
def qOv:Nat→Option (List (Nat×Nat)):=fun r=>match r with | 2=>some [(0,0),(1,0),(2,0),(3,0),(4,0),(5,0),(6,0),(7,0),(8,2),(9,2),(10,0),(11,0),(12,0),(13,0)] | _=>none
theorem qLO:qC Tryz.prog Tryz.f65.ntmps qOv (Tryz.f65.body.getD .skip)=some qFe.erase:=by kernel_rfl
@[simp] theorem qMK:zA Tryz.prog 65=true:=by kernel_rfl
def zL6 (p:Prg)(id:Id):A:=.tup [.agg (zP ((yC p.defs id).getD .zero)),bl ((yC p.defs id).isSome&&zBL ((yC p.defs id).getD .zero))]
theorem zUz (p:Prg)(id:Id):Ret Tryz.prog 65 [.agg (zU p),.agg (qX id)] [] (zL6 p id) []:=by
 have hP:=eP p;have hdf:=zE3 p id;unfold zL6;unfold zAL at hdf;generalize (yC p.defs id).getD .zero=d at *
 generalize (yC p.defs id).isSome=b at *
 refine zH Tryz.func65 rfl qLO (rs:=[.cell 4 31 true,.slot 5]) (by kernel_rfl) ?_;unfold qFe;simp[hP,qX];refine zR hdf (by simp[zU,qX]) (by simp) ?_;simp[zP];refine⟨_,_,zS (l:=[(4,.ptr 0 0),(6,.rptr (zP d)),(7,bl b)]) (σ':=[.box (kz0.map jC)]) [2] 1 (by simp) (by simp) (by simp) (by simp[zP]),?_⟩;cases b
 ·simp[zP];exact zC 0 (by simp[zP])
 ·by_cases h0:d.kind=0
  ·simp[zP,h0];exact zC 0 (by simp[zP,h0,zBL])
  ·by_cases h1:d.kind=1
   ·simp[zP,h0,h1];exact zC 0 (by simp[zP,h1,zBL])
   ·simp[zP,h0,h1];exact zC 0 (by simp[zP,h0,h1,zBL])
def zCN (p:Prg)(id:Id)(vs:List Val)(fuel:Int):A:=match yC p.defs id with
 | none=>.tup [.agg (zI vz),int 0,int 6]
 | some d=>if zBL d=false then .tup [.agg (zI vz),int 0,int 6] else if vs.length≠d.slots.length then .tup [.agg (zI vz),int 0,int 1]
  else if zBK p (d.slots.map Slt.typ) vs=false then .tup [.agg (zI vz),int 0,int 1] else zK7 fuel (zBI p d vs fuel)
def zYP:K:=G [kO 4 0,kO 5 1,kO 6 2,kZ 8 [ki,ki,kl],kMi 9 0,kMi 10 0] (G [J 16 4 2,J 17 5 3,kC 18 65 [(kt 16),(kt 17)],M 15 18,kE 19 15 0,kE 20 15 1,kZ 11 kz0,S 11 19 31,M 12 20] (Z (G [M 21 12,kR 22 21] (Y 22 (G [kb 23 [ki,ki,kl] [],S 8 23 3,kMi 9 0,kMi 10 6] kr) ks)) (Z (G [L 24 6 1,kN 25 24,D 26 11 8,L 27 26 1,kN 28 27,kQ 29 25 28 true] (Y 29 (G [kb 30 [ki,ki,kl] [],S 8 30 3,kMi 9 0,kMi 10 1] kr) ks)) (Z (G [D 31 11 8,L 32 31 1,kN 33 32,kMi 34 0] (K.block 0 (K.loop (G [kB 35 34 33 .lss] (Z (Y 35 ks (K.exit 0)) (Z (K.block 1 (G [M 36 34,kX 37 32 34 11,J 38 37 11,kZ 14 kz5,M 13 36,S 14 38 11] (Z (K.dops [(0,0,J 39 4 2),(1,0,D 40 14 4),(2,0,J 41 40 5),(3,0,L 42 6 1),(4,0,M 43 13),(5,0,kX 44 42 43 3),(6,0,J 45 44 3),(7,0,kC 46 45 [(kt 39),(kt 41),(kt 45)]),(8,0,kR 47 46)]) (Y 47 (G [kb 48 [ki,ki,kl] [],S 8 48 3,kMi 9 0,kMi 10 1] kr) ks)))) (K.ops [kBi 49 34 1 .add,M 34 49]))))))) (G [J 50 4 2,M 51 3,⟨none,.clo (some 52) 67 [] [(kt 11),(kt 6)]⟩,kC 53 66 [(kt 50),(kt 51),(kt 52)],kE 54 53 0,kE 55 53 1,kE 56 53 2,S 8 54 3,M 9 55,M 10 56] kr)))))
theorem qG1:zL Tryz.prog Tryz.f28.ntmps (Tryz.f28.body.getD .skip)=some zYP.erase:=by kernel_rfl
@[simp] theorem qJF:zA Tryz.prog 28=true:=by kernel_rfl
@[simp] theorem qKh:zA Tryz.prog 66=true:=by kernel_rfl
set_option maxHeartbeats 2000000 in
theorem zLI {p:Prg}{hs:List Hd}(hf:Fit p hs)(id:Id)(vs:List Val)(fuel:Int)(hfu0:0≤fuel)(hfu:fuel≤90000)(hz:∀v∈vs,qH v≤256∧zA0 v≤24) :
 Ret Tryz.prog 28 [.agg (zU p),.agg (qX id),.sl vs.length (zV vs),int fuel] [] (zCN p id vs fuel) []:=by
 have hP:=eP p;have hbo:=zUz p id;refine zH Tryz.func28 rfl qG1 (rs:=[.cell 8 3 true,.slot 9,.slot 10]) (by kernel_rfl) ?_;unfold zYP;simp[hP,qX];refine zR hbo (by simp[zU,qX]) (by simp[zL6]) ?_;cases hd:yC p.defs id with
 | none =>
  rw[show zCN p id vs fuel=.tup [.agg (zI vz),int 0,int 6] by simp[zCN,hd]];simp[zL6,hd,zP];exact zC 0 (by simp[zI,qG,zY,zM])
 | some d =>
 have hdm:=(zAC hd).1;obtain⟨s1,s6,_,snd,sty⟩:=hf.slots d hdm;cases hb:zBL d with
 | false =>
  rw[show zCN p id vs fuel=.tup [.agg (zI vz),int 0,int 6] by simp[zCN,hd,hb]];simp[zL6,hd,hb,zP];exact zC 0 (by simp[zI,qG,zY,zM])
 | true =>
 simp[zL6,hd,hb,zP];by_cases hl:vs.length=d.slots.length
 ·have hfit:=fun i (hi:i<d.slots.length)=>zM0 p d.slots[i].typ (vs[i]'(by omega)) (hz _ (List.getElem_mem _)).1 (hz _ (List.getElem_mem _)).2
  simp[hl];intro hls;refine qZ (S:=Nat) (fun i=>[(3,int fuel),(4,.ptr 0 0),(6,.ptr 2 0),(8,.ptr 3 0),(11,.ptr 4 0),(32,.sl d.slots.length (jU d.slots)),(33,int d.slots.length),(34,int i)])
   (fun i=>[.box (zU p),.box (qX id),.box [.sl vs.length (zV vs)],.box [int 0,int 0,.nil],.box (zP d)]) (fun i=>i≤d.slots.length∧∀j (hj:j<i) (hj':j<d.slots.length),zB7 p d.slots[j].typ (vs[j]'(by omega))=true) (fun i=>d.slots.length-i) 0 ⟨by omega,fun j hj=>by omega⟩
   (zS [0,1,2,3,4] 0 (by decide) (by simp) (by simp[hP,zP,qX,hl]) (by simp)) ?_
  rintro i ⟨hi,hft⟩;by_cases hil:i<d.slots.length
  ·have hiv:i<vs.length:=by omega
   have hdr:=jL hil;have hdv:=jD hiv;have hfi:=hfit i hil;cases hfv:zB7 p d.slots[i].typ vs[i]with
   | false =>
    rw[hfv]at hfi;have hfl:zBK p (d.slots.map Slt.typ) vs=false:=by
     cases hq:zBK p (d.slots.map Slt.typ) vs with
     | false=>rfl
     | true =>
      have:=zFY hq i (by simpa using hil) hiv;rw[List.getElem_map,hfv]at this;cases this
    rw[show zCN p id vs fuel=.tup [.agg (zI vz),int 0,int 1] by simp[zCN,hd,hb,hl,hfl]];simp[hP,hil,hiv,hdr,hdv,zAd,zP];refine qE hfi (by simp[hP,zB,zI]) (by simp) ?_;simp;exact zC 0 (by simp[zI,qG,zY,zM])
   | true =>
    rw[hfv]at hfi;simp[hP,hil,hiv,hdr,hdv,zAd,zP];refine qE hfi (by simp[hP,zB,zI]) (by simp) ?_;simp;refine zT (i+1) ⟨hil,fun j hj hj'=>?_⟩ (by omega) (zS [0,1,2,3,4] 0 (by decide) (by simp) (by simp[hP,zP]) (by simp[qB hil hls]));by_cases hji:j=i
    ·subst hji; exact hfv
    ·exact hft j (by omega) hj'
  ·have hie:i=d.slots.length:=by omega
   subst hie;have hfl:zBK p (d.slots.map Slt.typ) vs=true:=zIo (by simpa using hl) fun j h1 h2=>by rw[List.getElem_map];exact hft j (by simpa using h1) (by simpa using h1)
   rw[show zCN p id vs fuel=zK7 fuel (zBI p d vs fuel) by simp[zCN,hd,hb,hl,hfl]];have hty:TyL p (d.slots.map Slt.typ) vs:=TyL.of (by simpa using hl) fun j hj=>by rw[List.getElem_map];exact zRb hf (sty _ (List.getElem_mem _)) _ (hft j (by omega) (by omega))
   have hV:=EnvT.args hty fun v hv=>(hz v hv).1
   have hIh:=zQY (F:=fuel) hf.bods (zL5 hf) (by omega) fuel.toNat (by omega);have hca:=zNG hIh d vs hl s6 (s:=⟨fuel,0,zBw p d.slots [],[]⟩) rfl (fun _=>⟨_,_,hf.bods _ d hd hb,hV,zJ2 snd vs hl⟩) ⟨by simp only; omega,by simp only; omega⟩;change RP _ _ _ _ _ (.agg (zI (zBI p d vs fuel).1)) (zBI p d vs fuel).2 at hca;have hsz:(zBI p d vs fuel).2.fail=0→qH (zBI p d vs fuel).1≤256:=fun h0=>by
    have he:zBI p d vs fuel=zAs p 1 fuel.toNat d.body (zBF d.slots vs) ⟨fuel,0,zBw p d.slots []++[d.id],[]⟩:=by unfold zBI zA6; simp
    rw[he]at h0 ⊢;exact(hIh.snd _ _ _ _ _ (hf.bods _ d hd hb) hV h0).2
   generalize zBI p d vs fuel=r at *
   have hdo:=qBz (d:=d) (us:=vs) hfu0 rfl hsz (zU2 hca) (zU1 hca);simp[hP];refine zN hdo [4,2] (by decide) (by simp[zP]) (by simp[hP]) ?_;by_cases h0:r.2.fail=0
   ·simp[zK7,h0,zI];exact zC 0 (by simp)
   ·simp[zK7,h0,zI];exact zC 0 (by simp)
 ·rw[show zCN p id vs fuel=.tup [.agg (zI vz),int 0,int 1] by simp[zCN,hd,hb,hl]];have hl':¬((vs.length:Int)=d.slots.length):=by omega
  simp[hl']
  intros
  exact zC 0 (by simp[zI,qG,zY,zM])
end Go.Proofs.YthglhccibdlccaaGreatDoor
namespace Go.Proofs.YthglhccibdlccaaGreatDoor
open Go.Abs
theorem zIa (x:Int):zB4 x x=0:=by simp[zB4]
mutual
theorem zIb:∀v:Val,zJv v v=0
 | .mk k n l=>by rw[zJv,zIa,zIa,zIa,if_neg (by simp[orI])]; exact zJP l
theorem zJP:∀l:List Val,zCy l l=0
 | []=>by rw[zCy]
 | v::l=>by rw[zCy,zIb v,if_neg (by simp)]; exact zJP l
end
@[simp] theorem qJJ:zA Tryz.prog 3=true:=by kernel_rfl
theorem zNj (l:List Id):(zBJ l).length≤l.length:=by
 have key:∀(l m:List Id),(l.foldl zFi m).length≤m.length+l.length:=by
  intro l;induction l with
  | nil=>intro m; simp
  | cons x l ih =>
   intro m;have h1:=ih (zFi m x);have h2:(zFi m x).length≤m.length+1:=by
    clear ih h1;induction m with
    | nil=>simp[zFi]
    | cons y m ih=>unfold zFi; split<;>(try split)<;>simp<;>omega
   rw[List.foldl_cons,List.length_cons];omega
 rw[zNi]
 simpa using key l []
theorem zX5 {P:Prg}{hs:List Hd}(hf:Fit P hs){d:Dfn}(hd:d∈P.defs):yC P.defs d.id=some d:=by obtain⟨i,hi,rfl⟩:=List.getElem_of_mem hd;exact zJ3 hf.nd hi
theorem zV5:SS []:=List.Pairwise.nil
section
variable {p:Prg}{d:Dfn}{id:Id}{vs:List Val}
theorem zCO (hd:yC p.defs id=some d)(hk:zBO d.kind=true)(vs:List Val) :
 (∀fuel,zAm p id vs fuel=⟨vz,[],[],1⟩∧zCN p id vs fuel=.tup [.agg (zI vz),int 0,int 1]) ∨
 (∀fuel,zAm p id vs fuel=zMD (zBI p d vs fuel)∧zCN p id vs fuel=zK7 fuel (zBI p d vs fuel)):=by
 have hb:=zL4 hk;by_cases hl:vs.length=d.slots.length
 ·cases hft:zBK p (d.slots.map Slt.typ) vs with
  | true=>exact .inr fun fuel=>⟨by simp[zAm,hd,hk,hl,hft],by simp[zCN,hd,hb,hl,hft]⟩
  | false=>exact .inl fun fuel=>⟨by simp[zAm,hd,hk,hl,hft],by simp[zCN,hd,hb,hl,hft]⟩
 ·exact .inl fun fuel=>⟨by simp[zAm,hd,hk,hl],by simp[zCN,hd,hb,hl]⟩
theorem zQN (hd:yC p.defs id=some d)(hk:zBO d.kind=true)(vs:List Val){fuel:Int}(hf:0≤fuel) :
 ∃n:Int,zCN p id vs fuel=.tup [.agg (zI (zAm p id vs fuel).v),int n,int (zAm p id vs fuel).e]∧((zAm p id vs fuel).e=0→((zAm p id vs fuel).ns.length:Int)≤n):=by
 rcases zCO hd hk vs with h | h<;>obtain⟨h1,h2⟩:=h fuel
 ·rw[h1,h2];exact⟨0,rfl,fun h=>by cases h⟩
 ·rw[h1,h2];have hc:=zOG p d vs fuel;have hu:=zNj (zBI p d vs fuel).2.ns;by_cases h0:(zBI p d vs fuel).2.fail=0
  ·exact⟨fuel-(zBI p d vs fuel).2.fuel,by simp[zK7,zMD,h0],fun _=>by show ((zBJ (zBI p d vs fuel).2.ns).length:Int)≤_; omega⟩
  ·exact⟨0,by simp[zK7,zMD,h0],fun h=>(h0 h).elim⟩
theorem zL9 (hd:yC p.defs id=some d)(hk:zBO d.kind=true)(vs:List Val){fuel:Int}(hf:0≤fuel):((zAm p id vs fuel).ns.length:Int)≤fuel:=by
 rcases zCO hd hk vs with h | h<;>rw[(h fuel).1]
 ·simpa using hf
 ·have hc:=zOG p d vs fuel;have hu:=zNj (zBI p d vs fuel).2.ns;have h0:=zYq p d vs fuel hf;show ((zBJ (zBI p d vs fuel).2.ns).length:Int)≤_;omega
theorem zUh (hd:yC p.defs id=some d)(hk:zBO d.kind=true)(vs:List Val)(fuel:Int):SS (zAm p id vs fuel).ds∧SS (zAm p id vs fuel).ns:=by
 rcases zCO hd hk vs with h | h<;>rw[(h fuel).1]
 ·exact⟨zV5,zV5⟩
 ·exact⟨zDo _,zDo _⟩
theorem zPt (hd:yC p.defs id=some d)(hk:zBO d.kind=true)(vs:List Val){f g:Int}(hf:0≤f)(hg:f≤g) :
 zBJ ((zAm p id vs g).ds++(zAm p id vs f).ds)=(zAm p id vs g).ds∧zBJ ((zAm p id vs g).ns++(zAm p id vs f).ns)=(zAm p id vs g).ns:=by
 have hs:(∀x∈(zAm p id vs f).ds,x∈(zAm p id vs g).ds)∧∀x∈(zAm p id vs f).ns,x∈(zAm p id vs g).ns:=by
  rcases zCO hd hk vs with h | h<;>rw[(h f).1,(h g).1]
  ·simp
  ·have hr:=zVQ p d vs hf hg;exact⟨fun x hx=>zB9.2 (hr.1 x (zB9.1 hx)),fun x hx=>zB9.2 (hr.2 x (zB9.1 hx))⟩
 obtain⟨s1,s2⟩:=zUh hd hk vs g;exact⟨(zDo _).unique s1 fun x=>by rw[zB9,List.mem_append]; exact⟨fun h=>h.elim (fun h=>h) (hs.1 x),.inl⟩,(zDo _).unique s2 fun x=>by rw[zB9,List.mem_append]; exact⟨fun h=>h.elim (fun h=>h) (hs.2 x),.inl⟩⟩
theorem zJO {hs:List Hd}(hf:Fit p hs)(hd:yC p.defs id=some d)(hk:zBO d.kind=true)(vs:List Val){fuel:Int}(h0:0≤fuel)(hfu:fuel≤90000):(zAm p id vs fuel).ds.length≤100000:=by
 rcases zCO hd hk vs with h | h<;>rw[(h fuel).1]
 ·simp
 ·have hdm:=(zAC hd).1;obtain⟨_,_,_,_,sty⟩:=hf.slots d hdm;have hrl:RL p (zBw p d.slots []):=RL.fold (fun(s:Slt) L=>zAv p 10 s.typ L) d.slots [] (fun s hs' L hL=>((zO9 hf ⟨0,0,[],[]⟩ rfl (sty s hs') 10 (by omega)) L hL).1) ⟨by simp,by simp⟩;have hL8:=hrl.len hf;have hBd:Bd 100000 fuel.toNat ⟨fuel,0,zBw p d.slots [],[]⟩:=⟨by simp; omega,by simp only; omega,by simp only; omega,fun _=>by simp only; omega⟩;have hrB:=zJK (zH8 (p:=p) 1 fuel.toNat) d vs _ hBd;have h1:=hrB.ds;have h2:=zNj (zBI p d vs fuel).2.ds;change (zBI p d vs fuel).2.ds.length+(zBI p d vs fuel).2.fuel.toNat≤100000 at h1;show (zBJ (zBI p d vs fuel).2.ds).length≤_;omega
end
def zYV:K:=G [kMb 8 false] (G [M 27 0,kC 28 9 [(kt 27)],kZ 9 [kl,kl],S 9 28 2] (G [J 30 9 2,M 31 1,M 32 2,kC 33 10 [(kt 30),(kt 31),(kt 32)],M 29 33,kE 34 29 0,kE 35 29 1,kE 36 29 2,kZ 10 kz0,S 10 34 31,M 11 35,M 12 36] (Z (G [M 37 12,kR 38 37] (Y 38 (G [kC 39 11 [],M 8 39] kr) ks)) (G [J 41 9 2,D 42 10 0,J 43 42 3,M 44 11,kC 45 13 [(kt 41),(kt 43),(kt 44),(kc 3000)],M 40 45,kE 46 40 0,kE 47 40 1,kE 48 40 2,kZ 13 [ki,ki,kl],kZ 14 [kl,kl],S 13 46 3,S 14 47 2,M 15 48] (G [J 50 9 2,D 51 10 0,J 52 51 3,M 53 11,kC 54 28 [(kt 50),(kt 52),(kt 53),(kc 3000)],M 49 54,kE 55 49 0,kE 56 49 1,kE 57 49 2,kZ 16 [ki,ki,kl],S 16 55 3,M 17 56,M 18 57] (G [M 58 3,kC 59 12 [(kt 58),(kc 60)],M 19 59] (G [J 61 9 2,D 62 10 0,J 63 62 3,M 64 11,M 65 19,kC 66 13 [(kt 61),(kt 63),(kt 64),(kt 65)],M 60 66,kE 67 60 0,kE 68 60 1,kE 69 60 2,kZ 20 [ki,ki,kl],kZ 21 [kl,kl],S 20 67 3,S 21 68 2,M 22 69] (G [J 71 9 2,D 72 10 0,J 73 72 3,M 74 11,M 75 19,kC 76 28 [(kt 71),(kt 73),(kt 74),(kt 75)],M 70 76,kE 77 70 0,kE 78 70 1,kE 79 70 2,kZ 23 [ki,ki,kl],S 23 77 3,M 24 78,M 25 79] (Z (G [M 80 15,M 81 18,kQ 82 80 81 true,M 83 82,T 83 false (M 84 22),T 83 false (M 85 25),T 83 false (kQ 86 84 85 true),kPt 87 83 86,M 88 87,T 88 false (J 89 13 3),T 88 false (J 90 16 3),T 88 false (kC 91 15 [(kt 89),(kt 90)]),T 88 false (kQi 92 91 0 true),kPt 93 88 92,M 94 93,T 94 false (M 95 15),T 94 false (kQi 96 95 0 false),T 94 false (M 97 96),T 97 true (D 98 14 1),T 97 true (L 99 98 1),T 97 true (kN 100 99),T 97 true (M 101 17),
 T 97 true (kB 102 100 101 .gtr),T 94 false (kPf 103 97 102),kPt 104 94 103,M 105 104,T 105 false (D 106 21 1),T 105 false (L 107 106 1),T 105 false (kN 108 107),T 105 false (M 109 19),T 105 false (kB 110 108 109 .gtr),kPt 111 105 110] (Y 111 (G [kMb 8 false] kr) ks)) (G [J 112 14 2,J 113 21 2,kC 114 30 [(kt 112),(kt 113)],kZ 26 [kl,kl],S 26 114 2] (Z (K.dops [(0,0,J 115 26 2),(1,0,kC 116 17 [(kt 115)]),(2,0,J 117 14 2),(3,0,kC 118 17 [(kt 117)]),(4,0,kC 119 16 [(kt 116),(kt 118)]),(5,0,M 120 119),(6,0,T 120 true (kC 121 11 [])),(7,0,kPf 122 120 121),(8,0,M 8 122)]) kr)))))))))))
theorem qG8:zL Tryz.prog Tryz.f8.ntmps (Tryz.f8.body.getD .skip)=some zYV.erase:=by kernel_rfl
@[simp] theorem qJK:zA Tryz.prog 8=true:=by kernel_rfl
set_option maxHeartbeats 8000000 in
set_option maxRecDepth 100000 in
theorem qOD (l m:List Int)(n fuel:Int)(hl:∀x∈l,w64 x=x)(hm:∀x∈m,w64 x=x)(hn:w64 n=n)(hfu:w64 fuel=fuel) :
 Ret Tryz.prog 8 [.sl l.length (yF l),.sl m.length (yF m),int n,int fuel] [] (bl true) []:=by
 obtain⟨P,hP,rP⟩:=zYl l hl;have hf:=hP.fit hl;refine zK Tryz.func8 rfl qG8 (rs:=[.slot 8]) (by kernel_rfl) ?_;unfold zYV;simp -implicitDefEqProofs;refine zR rP (by simp) (by simp[zU]) ?_;simp -implicitDefEqProofs [zU];rcases zRR hf m hm n hn with rc | ⟨d,hdm,hdk,rc⟩
 ·refine zR rc (by simp[zU]) (by simp) ?_;simp -implicitDefEqProofs;refine zR zKs (by simp) (by simp) ?_;simp -implicitDefEqProofs;exact zC 0 (by simp)
 refine zR rc (by simp[zU]) (by simp) ?_;have hsm:=zNw hf hdm hm;generalize zCZ P d m=A at *
 have hfd:=zX5 hf hdm;obtain⟨f0,f1⟩:=zCl (k:=60) hfu (by omega);have rf:=zFR fuel 60 (by omega);generalize zAq fuel 60=less at *
 have t3:=zOU hf d.id A 3000 (by omega) hsm;have e3:=zLI hf d.id A 3000 (by omega) (by omega) hsm;have tl:=zOU hf d.id A less (by omega) hsm;have el:=zLI hf d.id A less (by omega) (by omega) hsm;obtain⟨n3,q3,c3⟩:=zQN hfd hdk A (fuel:=3000) (by omega);obtain⟨nl,ql,_⟩:=zQN hfd hdk A (fuel:=less) (by omega);rw[q3]at e3;rw[ql]at el;have hlen:=zL9 hfd hdk A (fuel:=less) (by omega);have hlen3:=zL9 hfd hdk A (fuel:=3000) (by omega);have hd3:=zJO hf hfd hdk A (fuel:=3000) (by omega) (by omega);have hdl:=zJO hf hfd hdk A (fuel:=less) (by omega) (by omega);obtain⟨j1,j2⟩:=zPt hfd hdk A (f:=less) (g:=3000) (by omega) (by omega);generalize zAm P d.id A 3000=r at *
 generalize zAm P d.id A less=r' at *
 simp -implicitDefEqProofs [zP];refine zR t3 (by simp[zU,qX]) (by simp[zDz,zI]) ?_;simp -implicitDefEqProofs [zDz,zI];refine zR e3 (by simp[zU,qX]) (by simp[zI]) ?_;simp -implicitDefEqProofs [zI];refine zR rf (by simp) (by simp) ?_;simp -implicitDefEqProofs;refine zR tl (by simp[zU,qX]) (by simp[zDz,zI]) ?_;simp -implicitDefEqProofs [zDz,zI];refine zR el (by simp[zU,qX]) (by simp[zI]) ?_;simp -implicitDefEqProofs [zI];refine zR (zG5 r.v r.v) (by simp[zI]) (by simp) ?_;have hlen':¬less<(r'.ns.length:Int):=by omega
 have hj:=zXF ⟨r.ds,r.ns⟩ ⟨r'.ds,r'.ns⟩ (by simp only; omega) (by simp only; omega);simp only[j1,j2]at hj;by_cases he:r.e=0
 ·have c4:¬n3<(r.ns.length:Int):=by have:=c3 he; omega
  simp -implicitDefEqProofs [zIb,he,c4,hlen']
  intros
  refine zR hj (by simp[zAy]) (by simp[zAy]) ?_;simp -implicitDefEqProofs [zAy];refine qE (zHC ⟨r.ds,r.ns⟩) (by simp[zAy]) (by simp[zAy]) ?_;simp -implicitDefEqProofs [zAy];refine qE (zHC ⟨r.ds,r.ns⟩) (by simp[zAy]) (by simp[zAy]) ?_;simp -implicitDefEqProofs [zAy];refine qE (zRx ⟨r.ds,r.ns⟩ ⟨r.ds,r.ns⟩) (by simp[zAy]) (by simp) ?_;simp -implicitDefEqProofs;refine qE zKs (by simp) (by simp) ?_;simp -implicitDefEqProofs;exact zC 0 (by simp)
 ·simp -implicitDefEqProofs [zIb,he,hlen']
  intros
  refine zR hj (by simp[zAy]) (by simp[zAy]) ?_;simp -implicitDefEqProofs [zAy];refine qE (zHC ⟨r.ds,r.ns⟩) (by simp[zAy]) (by simp[zAy]) ?_;simp -implicitDefEqProofs [zAy];refine qE (zHC ⟨r.ds,r.ns⟩) (by simp[zAy]) (by simp[zAy]) ?_;simp -implicitDefEqProofs [zAy];refine qE (zRx ⟨r.ds,r.ns⟩ ⟨r.ds,r.ns⟩) (by simp[zAy]) (by simp) ?_;simp -implicitDefEqProofs;refine qE zKs (by simp) (by simp) ?_;simp -implicitDefEqProofs;exact zC 0 (by simp)
end Go.Proofs.YthglhccibdlccaaGreatDoor
