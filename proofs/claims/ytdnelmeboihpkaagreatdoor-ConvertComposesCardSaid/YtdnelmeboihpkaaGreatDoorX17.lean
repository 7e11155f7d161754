/-
  The reference's evaluator: nodes.
  eval.do: the closure that recovers.
  The reference's Call.
  eval.do: an evaluation whose failure is recovered.
  The reference tracer's Call returns what the program's does.
  eval.Call.
  What a run has asked decides nothing: eval.Call and the reference's call agree.
  Paths of converters and values that follow them, as data.
  The converters of a program as edges, in the order of their IDs.
  Following a path: with more fuel, and in two parts.
  The paths of a program: what the reference lists.
  There are few paths.
  convert.follow and Along.
  The reference's Leads, IsPath, follow and Along.
-/
import Derived.Test.YtdnelmeboihpkaaGreatDoorX16
import Derived.Test.YtdnelmeboihpkaaGreatDoorX12
import Derived.RecoverIn
import Derived.Tactics
import Derived.Tactics2
import Derived.Test.YtdnelmeboihpkaaGreatDoorX13
import Derived.Test.YtdnelmeboihpkaaGreatDoorX11
set_option linter.unusedVariables false
set_option maxHeartbeats 8000000
set_option maxRecDepth 100000
set_option linter.unusedSimpArgs false
namespace Go.Proofs.YtdnelmeboihpkaaGreatDoor
open Go.Abs
section
variable {p:Prg}{F:Int}{c:Nat}{m:Int}{ev:Evl}{e:Exp}{V:List EVar}{s:XS}
@[simp] theorem qPS:zB Tryz.prog 171=true:=by kernel_rfl
end
end Go.Proofs.YtdnelmeboihpkaaGreatDoor
namespace Go.Proofs.YtdnelmeboihpkaaGreatDoor
open Go Go.Abs
theorem zUt (pv ps pe:Value)(w:World) :
 CallsDIn Fence.wide 0 Tryz.prog 107 #[pv,ps,pe] .returning w fun e u' w'=>e=.returned (.tuple #[])∧u'=.returning∧w'=w:=by
 refine callsDIn_of_wpSIn Tryz.func107 rfl trivial fun c₀ cs hu=>?_
 apply wpSIn_seq;apply wpSIn_region;simp[wpOpsSIn,go_sem,recoverD,hu,Tryz.ntmps107,Exit.thenS];apply wpSIn_seq;apply wpSIn_region;simp[wpOpsSIn,go_sem,Exit.thenS];refine wpSIn_cond (t:=false) (by simp[Act.eval,Array.replicate]) ?_;simp only[jAg,if_false];refine wpSIn_of_wpIn rfl (wpIn_skip ?_);cases c₀;simp_all [bodyPostS,results,Tryz.results107]
theorem zZX (k:Int)(w:World):(Instr.typeAssert (zPC k) 20 51 true).run Tryz.prog w=.ok (.tuple #[.int .i64 k,.bool true]) w:=by
 have hu:Tryz.prog.underlying 51=some (.int .i64):=by kernel_rfl
 simp[Instr.typeAssert,run_underlying hu]
def qHf:List KG:=[⟨none,.build (some 17) [(.int .i64 0),(.int .i64 0),(.slice none 0 0)] []⟩,⟨none,.mov (some 18) (.tmp 4)⟩,⟨none,.st none (.tmp 0) (.tmp 17) 3⟩,⟨none,.st none (.tmp 1) (.const (.int .i64 0)) 1⟩,⟨none,.st none (.tmp 2) (.tmp 18) 1⟩]
theorem zPA {H:Mem}{L:List LI} {σ : St}{w:World}{vs:List Value}{q0 q1 q2:Nat}{k:Int}{older:List PanicEntry}(hs:RelSt H L σ w)(hv:zU H L [.ptr q0 0,.ptr q1 0,.ptr q2 0] vs)
 {x0 y0 z0 x1 x2:A}(b0 : σ[q0]?=some (.box [x0,y0,z0]))(b1 : σ[q1]?=some (.box [x1]))(b2 : σ[q2]?=some (.box [x2]))(n1:q0≠q1)(n2:q0≠q2)(n3:q1≠q2) :
 CallsDIn Fence.wide 0 Tryz.prog 107 vs.toArray (.panicking ({v:=zPC k,recovered:=false}::older)) w fun e u' w'=>e=.returned (.tuple #[])∧u'=.panicking ({v:=zPC k,recovered:=true}::older) ∧
  ∃H' L',Nxt H L w H' L' (((σ.set q0 (.box [int 0,int 0,.nil])).set q1 (.box [int 0])).set q2 (.box [int k])) w':=by
 obtain⟨pv,vs',rfl,h0,hv⟩:=zW hv;obtain⟨ps,vs',rfl,h1,hv⟩:=zW hv;obtain⟨pe,vs',rfl,h2,hv⟩:=zW hv;rw[jK hv];refine callsDIn_of_wpSIn Tryz.func107 rfl trivial fun c₀ cs hu=>?_
 apply wpSIn_seq;apply wpSIn_region;simp[wpOpsSIn,go_sem,recoverD,hu,Tryz.ntmps107,Exit.thenS];apply wpSIn_seq;apply wpSIn_region;simp[wpOpsSIn,go_sem,Exit.thenS];refine wpSIn_cond (t:=true) (by simp[Act.eval,Array.replicate]) ?_;simp only[if_true];apply wpSIn_seq;apply wpSIn_region;simp[wpOpsSIn,go_sem,Exit.thenS,zZX];apply wpSIn_seq;apply wpSIn_seq;apply wpSIn_region;simp[wpOpsSIn,go_sem,Exit.thenS];refine wpSIn_cond (t:=false) (by simp[Act.eval,Array.replicate]) ?_;simp only[jAg,if_false];refine wpSIn_of_wpIn rfl (wpIn_skip ?_);simp only[Exit.thenS];refine wpSIn_of_wpIn rfl ?_;refine zLU (n0:=L.length) (hint:=zFw) (l:=qHf) (by kernel_rfl) (Q:=fun x env τ=>x=.norm∧τ = ((σ.set q0 (.box [int 0,int 0,.nil])).set q1 (.box [int 0])).set q2 (.box [int k])) (N:=19) (env:=qN [(0,.ptr q0 0),(1,.ptr q1 0),(2,.ptr q2 0),(4,int k)]) ?_ hs ?_ fun e a' w' hp=>?_
 ·refine⟨by simp,fun t=>?_⟩;rcases zDF [(0,.ptr q0 0),(1,.ptr q1 0),(2,.ptr q2 0),(4,int k)] t with h | h
  ·rw[h]; simp[Rel]
  ·generalize qN [(0,.ptr q0 0),(1,.ptr q1 0),(2,.ptr q2 0),(4,int k)] t=a at h;simp only[jA6,jBb,jCm,or_false]at h;rcases h with ⟨rfl,rfl⟩ | ⟨rfl,rfl⟩ | ⟨rfl,rfl⟩ | ⟨rfl,rfl⟩
   ·simpa using h0
   ·simpa using h1
   ·simpa using h2
   ·simp[Rel,Array.getElem?_append]
 ·unfold qHf;simp[b0,b1,b2,n1,n2,n3,jDb]
 ·obtain⟨x,env',τ,H',L',rfl,g2,g3,g4,rfl,rfl⟩:=hp;refine⟨g2,_,rfl,.tuple #[],?_,rfl,rfl,H'.1,H'.2,L',g4⟩;simp[results,Tryz.results107]
end Go.Proofs.YtdnelmeboihpkaaGreatDoor
namespace Go.Proofs.YtdnelmeboihpkaaGreatDoor
open Go.Abs
def Fl (s:XS):Prop:=s.fail=0∨s.fail=4∨s.fail=18
section
variable {p:Prg}{ev:Evl}
theorem zSW (h:∀e V s,Fl s→Fl (ev e V s).2)(V:List EVar):∀(l:List Exp) (s:XS),Fl s→Fl (qZ ev V l s).2
 | [],s,hs=>hs
 | e::l,s,hs=>by simp only[qZ]; exact zSW h V l _ (h e V s hs)
theorem zPJ (h:∀e V s,Fl s→Fl (ev e V s).2)(V:List EVar)(i:Id)(b:Exp):∀(l:List Val) (r:Val×XS),Fl r.2→Fl (yH ev V i b l r).2
 | [],r,hs=>hs
 | e::l,r,hs=>by simp only[yH]; exact zPJ h V i b l _ (h _ _ _ hs)
theorem zPq (h:∀e V s,Fl s→Fl (ev e V s).2)(d:Dfn)(vs:List Val)(s:XS)(hs:Fl s):Fl (zAH ev d vs s).2:=by
 unfold zAH;split
 ·exact hs
 ·exact h _ _ _ hs
theorem zRu (h:∀e V s,Fl s→Fl (ev e V s).2)(e:Exp)(V:List EVar)(s:XS)(hs:Fl s):Fl (yE ev e V s).2:=by
 unfold yE;have h0:=h (e.kids.headD .zero) V s hs;generalize ev (e.kids.headD .zero) V s=r at *
 repeat' split
 all_goals first
  | exact h0
  | exact h _ _ _ h0
  | exact zPJ h _ _ _ _ _ (h _ _ _ h0)
theorem zV2 (h:∀e V s,Fl s→Fl (ev e V s).2)(fl:Nat)(e:Exp)(V:List EVar)(s:XS)(hs:Fl s):Fl (qV p fl ev e V s).2:=by
 unfold qV;have h0:=zSW h V e.kids s hs;generalize qZ ev V e.kids s=r at *
 repeat' split
 all_goals first
  | exact hs
  | exact h0
  | exact zRu h _ _ _ hs
  | exact zPq h _ _ _ h0
theorem zZ5 {r:Val×XS}(h:Fl r.2):Fl (zBG r):=by
 unfold zBG;split
 ·exact .inr (.inl rfl)
 ·exact h
theorem zQ1 (fl:Nat):∀(n:Nat) e V s,Fl s→Fl (jU p fl n e V s).2
 | 0,e,V,s,hs=>by
  rw[jU];split
  ·exact hs
  ·exact .inr (.inr rfl)
 | n+1,e,V,s,hs=>by
  rw[jU];split
  ·exact hs
  ·split
   ·exact .inr (.inr rfl)
   ·exact zZ5 (zV2 (zQ1 fl n) fl e V _ hs)
end
def zCg (p:Prg)(d:Dfn)(vs:List Val)(fuel:Int):Val×XS:=zAH (jU p 2 fuel.toNat) d vs ⟨fuel,0,[],[]⟩
def qI (p:Prg)(id:Id)(vs:List Val)(fuel:Int):Val×Int×Int:=match qY p.defs id with
 | none=>(vz,0,6)
 | some d=>if zOb d.kind=false then (vz,0,6) else if vs.length≠d.slots.length then (vz,0,1)
  else if zAP p (d.slots.map Slt.typ) vs=false then (vz,0,1) else if (zCg p d vs fuel).2.fail≠0 then (vz,0,(zCg p d vs fuel).2.fail) else ((zCg p d vs fuel).1,fuel-(zCg p d vs fuel).2.fuel,0)
def zCF (r:Val×Int×Int):A:=.tup [.agg (zC r.1),int r.2.1,int r.2.2]
@[simp] theorem qPR:zB Tryz.prog 92=true:=by kernel_rfl
end Go.Proofs.YtdnelmeboihpkaaGreatDoor
namespace Go.Proofs.YtdnelmeboihpkaaGreatDoor
open Go Go.Abs
def qJP:List KG:=[⟨none,.box (some 3) (.tmp 0)⟩,⟨none,.alloc (some 6) [(.int .i64 0),(.int .i64 0),(.slice none 0 0)]⟩,⟨none,.alloc (some 7) [(.int .i64 0)]⟩,⟨none,.alloc (some 8) [(.int .i64 0)]⟩]
def qJQ:List KG:=[⟨none,.ld (some 10) (.tmp 3) 2 true⟩,⟨none,.mov (some 11) (.tmp 1)⟩,⟨none,.mm (some 12) true [(.tmp 11),(.const (.int .i64 0))]⟩,
 ⟨none,.build (some 13) [(.slice none 0 0),(.slice none 0 0),(.int .i64 0),(.int .i64 0)] [(0,2,(.tmp 10)),(2,1,(.tmp 12))]⟩,⟨none,.box (some 14) (.tmp 13)⟩,⟨none,.mov (some 9) (.tmp 14)⟩]
def zZ3:List KG:=[⟨none,.mov (some 16) (.tmp 2)⟩,⟨none,.mov (some 17) (.tmp 9)⟩,⟨none,.call (some 18) (.tmp 16) [(.tmp 17)]⟩,⟨none,.st none (.tmp 6) (.tmp 18) 3⟩]
def qJR:List KG:=[⟨none,.addr (some 19) (.tmp 6) 2⟩,⟨none,.ld (some 20) (.tmp 19) 1 false⟩,⟨none,.call (some 21) (.func 108) [(.tmp 20)]⟩,⟨none,.addr (some 22) (.tmp 6) 2⟩,⟨none,.st none (.tmp 22) (.tmp 21) 1⟩]
def qJS:List (Nat×Nat×KG):=[(0,0,⟨none,.ld (some 23) (.tmp 6) 3 true⟩),(1,0,⟨none,.mov (some 24) (.tmp 9)⟩),(2,0,⟨none,.nilc (some 25) (.tmp 24)⟩),(3,2,⟨none,.addr (some 26) (.tmp 25) 3⟩),(4,2004,⟨none,.ld (some 27) (.tmp 26) 1 false⟩),
 (5,1004,⟨none,.st none (.tmp 6) (.tmp 23) 3⟩),(6,0,⟨none,.st none (.tmp 7) (.tmp 27) 1⟩),(7,0,⟨none,.st none (.tmp 8) (.const (.int .i64 0)) 1⟩)]
def hDo:Nat→Option (List (Nat×Nat)):=fun r=>match r with | 5=>some [(0,0),(1,0),(2,0),(3,2),(4,2004),(5,1004),(6,0),(7,0)] | _=>none
def dfr (pv ps pe:Value):Deferred:={target:=.fn (.func 107) #[pv,ps,pe],args:=#[]}
abbrev sDo (D:St)(p:Prg)(F:Int)(v:Val)(n e:Int)(s:XS):St:=D++[.box (zK p),.box (zC v),.box [int n],.box [int e]]++eS p F s
def zM5 (F:Int)(r:Val×XS):A:=if r.2.fail=0 then .tup [.agg (zC r.1),int (F-r.2.fuel),int 0] else .tup [.agg (zC vz),int 0,int r.2.fail]
def qCm:K:=G [kZ 4 [ki,ki,kl]] (G [M 5 0,J 6 1 31,L 7 2 1,kC 8 72 [(kt 5),(kt 6),(kt 7)],S 4 8 3] kr)
theorem qIw:zQ Tryz.prog Tryz.f71.ntmps (Tryz.f71.body.getD .skip)=some qCm.erase:=by kernel_rfl
@[simp] theorem qOZ:zB Tryz.prog 71=true:=by kernel_rfl
section
variable {p:Prg}{F:Int}{d:Dfn}{us:List Val}{s:XS}{r:Val×XS}
abbrev dA (d:Dfn)(us:List Val):St:=[.box (zG d),.box [.sl us.length (zN us)]]
abbrev qQx (G:Int):List (Nat×A):=[(1,int G),(2,.clo 71 [] [.ptr 0 0,.ptr 1 0]),(3,.ptr 2 0),(6,.ptr 3 0),(7,.ptr 4 0),(8,.ptr 5 0)]
abbrev zSc:List (Nat×A):=[(2,.clo 71 [] [.ptr 0 0,.ptr 1 0]),(6,.ptr 3 0),(7,.ptr 4 0),(8,.ptr 5 0),(9,.ptr 6 0)]
theorem qDi {G:Int}(hG:F=max G 0)(hs:s.fuel=F)(hz:r.2.fail=0→zX r.1≤256)
 (hret:r.2.fail=0→Ret Tryz.prog 71 [.ptr 0 0,.ptr 1 0,.ptr 2 0] (eS p F s++dA d us) (.agg (zC r.1)) (eS p F r.2++dA d us))
 (hpan:r.2.fail≠0→zAi Tryz.prog 71 [.ptr 0 0,.ptr 1 0,.ptr 2 0] (eS p F s++dA d us) fun o σ'=>o=.pan (zPC r.2.fail)∧σ'[1]?=some (.box (zG d))∧σ'[2]?=some (.box [.sl us.length (zN us)])) :
 Ret Tryz.prog 70 [.agg (zK p),int G,.clo 71 [] [.ptr 0 0,.ptr 1 0]] (dA d us) (zM5 F r) (dA d us):=by
 have hP:=eP p;refine zF2 (fun H L w vs hst hargs=>?_);have hL:L.length=2:=hst.len
 suffices h:∀R:Ending→World→Prop,(∀(v:Value) (σ':St) (H':Mem) (L':List LI) (w':World) (r':A),Rel H' L' r' v→Nxt H L w H' L' σ' w'→zGS 2 (zM5 F r) (dA d us) (.ret r') σ'→R (.returned v) w')→CallsIn Fence.wide 0 Tryz.prog 70 vs.toArray w R from
  callsIn_wide.1 (h _ fun v σ' H' L' w' r' g1 g2 g3=>⟨.ret r',σ',H',L',⟨v,rfl,g1⟩,g2,g3⟩)
 intro R hR;refine callsIn_of_wp_defers (n:=0) (F:=Fence.wide) Tryz.func70 rfl trivial ?_;refine zIA (n0:=2) (hint:=hDo) (l:=qJP) (N:=28) (by kernel_rfl) (zJF hargs _) hst (Q:=fun x env τ=>x=.norm∧zAD 2 (qN (qQx G))
  (dA d us++[.box (zK p),.box (zC vz),.box [int 0],.box [int 0]]) env τ) ?_ (fun env' τ H' L' w' a' hd' he' hn' hq'=>?_) (fun x _ _ _ _ _ _ hx _ _ _ hq=>(hx hq.1).elim)
 ·unfold qJP;simp[hP];exact zT [0,1,2,3,4,5] 0 (by decide) (by simp) (by simp[zC,qX,qF,zS]) (by simp)
 obtain⟨H',L',hn',he'⟩:=hq'.2 _ _ _ _ _ _ _ _ hL hn' he';refine zIA (n0:=2) (hint:=hDo) (l:=qJQ) (N:=28) (by kernel_rfl) he' hn'.st (Q:=fun x env τ=>x=.norm∧zAD 2 (qN zSc) (sDo (dA d us) p F vz 0 0 s) env τ)
  ?_ (fun env' τ H1 L1 w' a' hd'' he1 hn1 hq1=>?_) (fun x _ _ _ _ _ _ hx _ _ _ hq=>(hx hq.1).elim)
 ·unfold qJQ;simp[hP];exact zT [0,1,2,3,4,5,6] 0 (by decide) (by simp) (by simp[zC,qX,qF,zS,eS,hP,hs]; omega) (by simp)
 rw[hd']at hd'';obtain⟨H',L',hn',he'⟩:=hq1.2 _ _ _ _ _ _ _ _ hL (hn'.trans hn1) he1;have hmf:∀(fn:Fn) (first cap:Array Value) (w:World),(Instr.makeFunc fn first cap).run Tryz.prog w=.ok (.func fn first cap) w:=fun _ _ _ _=>rfl
 have hsz:28≤a'.tmps.size:=he'.1;have hsz':15<a'.tmps.size:=by omega
 refine wpIn_seq (wpIn_region_list ?_);simp only[wpListIn];simp[Region.wanted,Oper.wpIn,Oper.uponIn,go_sem,hmf,Exit.then,hsz',hd'',wpListIn];have h6:=he'.2 6;have h7:=he'.2 7;have h8:=he'.2 8;rw[jDi]at h6 h7 h8;have he3:∀X,qB H' L' 28 (qN zSc) (a'.tmps.setIfInBounds 15 X):=fun X=>by
  have:=he'.put (a:=a') (d:=some 15) (fun x hx=>by cases hx; omega) (r:=.any) (v:=X) (by simp[Rel]);have h15:Env.put (qN zSc) (some 15) .any=qN zSc:=by
   funext t;simp only[Env.put];split
   ·rename_i ht; subst ht; rfl
   ·rfl
  rw[h15]at this;exact this
 generalize a'.tmps[6]?.getD undef=pv at *
 generalize a'.tmps[7]?.getD undef=ps at *
 generalize a'.tmps[8]?.getD undef=pe at *
 have he3:=he3 (Value.func (Fn.func 107) #[] #[pv,ps,pe]);generalize a'.tmps.setIfInBounds 15 (Value.func (Fn.func 107) #[] #[pv,ps,pe])=tm at *
 have idle:∀(pv ps pe:Value) (tm:Array Value) (w3:World) (v:Value),(results Tryz.f70 tm).run Tryz.prog w3=.ok v w3→R (.returned v) w3→LeavesIn Fence.wide 0 Tryz.prog Tryz.f70 tm R [dfr pv ps pe] .returning w3:=fun pv ps pe tm w3 v g1 g2=>by refine leavesIn_cons (f:=107) (args:=#[pv,ps,pe]) (by simp) (by simp[Fence.wide]) (by simp[go_sem]) (fun _ _=>trivial) ?_;refine(zUt pv ps pe w3).mono ?_;rintro e u' w'' ⟨rfl,rfl,rfl⟩;exact⟨v,g1,g2⟩
 by_cases hf:r.2.fail=0
 ·refine zIA (n0:=2) (hint:=hDo) (l:=zZ3) (N:=28) (by kernel_rfl) he3 hn'.st (Q:=fun x env τ=>x=.norm∧zAD 2 (qN zSc) (sDo (dA d us) p F r.1 0 0 r.2) env τ) ?_
   (fun env' τ H1 L1 w1 a1 hd1 he1 hn1 hq1=>?_) (fun x _ _ _ _ _ _ hx _ _ _ hq=>(hx hq.1).elim)
  ·unfold zZ3;simp[eS,hP];refine jO (hret hf) [6,0,1] (by decide) (by simp[eS,hP]) (by simp) ?_;simp[eS,hP,zC];exact zT [0,1,2,3,4,5,6] 0 (by decide) (by simp) (by simp[zC]) (by simp)
  obtain⟨H',L',hn',he'⟩:=hq1.2 _ _ _ _ _ _ _ _ hL (hn'.trans hn1) he1;have hco:=zHt r.1.kids (by have:=hz hf; have:=zCo r.1; omega);refine zIA (n0:=2) (hint:=hDo) (l:=qJR) (N:=28) (by kernel_rfl) he' hn'.st (Q:=fun x env τ=>x=.norm∧zAD 2 (qN zSc) (sDo (dA d us) p F r.1 0 0 r.2) env τ) ?_
   (fun env' τ H1 L1 w1 a1 hd2 he1 hn1 hq1=>?_) (fun x _ _ _ _ _ _ hx _ _ _ hq=>(hx hq.1).elim)
  ·unfold qJR;simp[eS,hP,zC];refine qA hco (by simp) (by simp) ?_;simp[eS,hP,zC];exact zT [0,1,2,3,4,5,6] 0 (by decide) (by simp) (by simp[zC]) (by simp)
  obtain⟨H',L',hn',he'⟩:=hq1.2 _ _ _ _ _ _ _ _ hL (hn'.trans hn1) he1;refine zXU (n0:=2) (hint:=hDo) (l:=qJS) (N:=28) (by kernel_rfl) he' hn'.st (Q:=fun x env τ=>x=.norm∧zAD 2 (qN zSc) (sDo (dA d us) p F r.1 (F-r.2.fuel) 0 r.2) env τ) ?_
   (fun env' τ H1 L1 w1 a1 hd3 he1 hn1 hq1=>?_) (fun x _ _ _ _ _ _ hx _ _ _ hq=>(hx hq.1).elim)
  ·unfold qJS;simp[eS,hP,zC]
   try refine⟨(zGR (by decide) (by decide)).2 (by simp[zB3]),(zOR (by decide) (by decide)).2 (by simp[zFt]),?_⟩
   exact zT [0,1,2,3,4,5,6] 0 (by decide) (by simp) (by simp[zC]) (by simp)
  obtain⟨H',L',hn',he'⟩:=hq1.2 _ _ _ _ _ _ _ _ hL (hn'.trans hn1) he1;have hds:a1.defers=[dfr pv ps pe]:=hd3.trans (hd2.trans hd1);refine wpIn_ret ?_;show LeavesIn Fence.wide 0 Tryz.prog Tryz.f70 a1.tmps R a1.defers .returning w1;rw[hds];obtain⟨v,g1,g2⟩:=zGx (P:=Tryz.prog) (fn:=Tryz.f70) (rs:=[.cell 6 3 true,.cell 7 1 false,.cell 8 1 false]) (by kernel_rfl) he' hn'.st (a:=.tup [.agg (zC r.1),int (F-r.2.fuel),int 0]) (by simp[zS2,zBd,zEq,ldA,zC]);exact idle pv ps pe _ _ v g1 (hR v _ _ _ _ _ g2 hn' (zL [0,1] 0 (by decide) (by simp) (by simp) (by simp[zM5,hf,zC])))
 ·refine zIA (n0:=2) (hint:=hDo) (l:=zZ3) (N:=28) (by kernel_rfl) he3 hn'.st (Q:=fun x env τ=>x=.pan (zPC r.2.fail)∧(env 6=.ptr 3 0∧env 7=.ptr 4 0∧env 8=.ptr 5 0)∧τ[0]?=some (.box (zG d))∧τ[1]?=some (.box [.sl us.length (zN us)]) ∧
   τ[3]?=some (.box [int 0,int 0,.sl 0 []])∧τ[4]?=some (.box [int 0])∧τ[5]?=some (.box [int 0])) ?_ (fun env' τ H1 L1 w1 a1 hd1 he1 hn1 hq1=>by cases hq1.1) (fun x env' τ H1 L1 w1 a1 hx hd1 he1 hn1 hq1=>?_)
  ·unfold zZ3;simp[eS,hP];refine zIV (C:=fun vs w R=>Calls Tryz.prog _ vs.toArray w R) (zHq Tryz.prog _) (hpan hf) [6,0,1] (by decide) (by simp[eS,hP]) (by simp) fun o σ1 h0=>?_
   obtain⟨rfl,g1,g2⟩:=h0;have hlen:∀n,3≤(σ1.map (zAM [6,0,1] n)).length:=fun n=>by rw[jB5];exact(jA1.1 g2).1
   refine⟨rfl,⟨rfl,rfl,rfl⟩,?_,?_,?_,?_,?_⟩
   ·rw[zDH (js:=[6,0,1]) (hlen _) (by decide) (by simp) (i:=1) rfl,jCt];simp[g1,zAM,vwO]
   ·rw[zDH (js:=[6,0,1]) (hlen _) (by decide) (by simp) (i:=2) rfl,jCt];simp[g2,zAM,vwO]
   ·rw[zCS (by simp) (by simp)];simp[zC,qX,qF,zS]
   ·rw[zCS (by simp) (by simp)];simp
   ·rw[zCS (by simp) (by simp)];simp
  ·obtain⟨rfl,⟨e6,e7,e8⟩,t0,t1,t3,t4,t5⟩:=hq1;have l3:=(jA1.1 t3).1;have l4:=(jA1.1 t4).1;have l5:=(jA1.1 t5).1;have hds:a1.defers=[dfr pv ps pe]:=hd1;show LeavesIn Fence.wide 0 Tryz.prog Tryz.f70 a1.tmps R a1.defers (.panicking [{v:=zPC r.2.fail,recovered:=false}]) w1;rw[hds];refine leavesIn_cons (f:=107) (args:=#[pv,ps,pe]) (by simp) (by simp[Fence.wide]) (by simp[go_sem]) (fun _ _=>trivial) ?_;refine(zPA (vs:=[pv,ps,pe]) hn1.st (qQ (Rel.mono hn1.step.hle hn1.lle _ h6) (qQ (Rel.mono hn1.step.hle hn1.lle _ h7) (qQ (Rel.mono hn1.step.hle hn1.lle _ h8) jM))) t3 t4 t5 (by decide) (by decide) (by decide)).mono ?_;rintro e u' w'' ⟨rfl,rfl,H2,L2,hn2⟩;obtain⟨v,g1,g2⟩:=zGx (P:=Tryz.prog) (fn:=Tryz.f70) (rs:=[.cell 6 3 true,.cell 7 1 false,.cell 8 1 false]) (by kernel_rfl) (he1.mono hn2.step.hle hn2.lle) hn2.st (a:=.tup [.agg [int 0,int 0,.nil],int 0,int r.2.fail])
    (by simp[zS2,zBd,zEq,ldA,e6,e7,e8,jDb,l3,l4,l5])
   exact⟨v,g1,hR v _ _ _ _ _ g2 (hn'.trans (hn1.trans hn2)) (zL [0,1] 0 (by decide) (by simp) (by simp[t0,t1]) (by simp[zM5,hf,zC,qX,qF,zS]))⟩
end
end Go.Proofs.YtdnelmeboihpkaaGreatDoor
namespace Go.Proofs.YtdnelmeboihpkaaGreatDoor
open Go.Abs
theorem qAn (p:Prg)(d:Dfn)(vs:List Val)(fuel:Int):Fl (zCg p d vs fuel).2:=zPq (zQ1 2 fuel.toNat) d vs _ (.inl rfl)
end Go.Proofs.YtdnelmeboihpkaaGreatDoor
namespace Go.Proofs.YtdnelmeboihpkaaGreatDoor
open Go Go.Abs
section
variable {p:Prg}{F:Int}{d:Dfn}{us:List Val}{s:XS}{r:Val×XS}
theorem zW5 (hb:RP 72 [.ptr 0 0,.agg (zG d),.sl us.length (zN us)] p F s (.agg (zC r.1)) r.2)(hf:r.2.fail=0) :
 Ret Tryz.prog 71 [.ptr 0 0,.ptr 1 0,.ptr 2 0] (eS p F s++dA d us) (.agg (zC r.1)) (eS p F r.2++dA d us):=by
 have hP:=eP p;refine zI Tryz.func71 rfl qIw (rs:=[.cell 4 3 true]) (by kernel_rfl) ?_;unfold qCm;simp[eS,hP];refine jO (hb.ret hf) [0] (by decide) (by simp[eS,hP]) (by simp) ?_;simp[eS,hP,zC];exact zL [0,1,2] 0 (by decide) (by simp) (by simp) (by simp[zC])
theorem zW4 (hb:RP 72 [.ptr 0 0,.agg (zG d),.sl us.length (zN us)] p F s (.agg (zC r.1)) r.2)(hf:r.2.fail≠0) :
 zAi Tryz.prog 71 [.ptr 0 0,.ptr 1 0,.ptr 2 0] (eS p F s++dA d us) fun o σ'=>o=.pan (zPC r.2.fail)∧σ'[1]?=some (.box (zG d))∧σ'[2]?=some (.box [.sl us.length (zN us)]):=by
 have hP:=eP p;refine zFR Tryz.func71 rfl qIw (rs:=[.cell 4 3 true]) (by kernel_rfl) ?_;unfold qCm wpF;simp[eS,hP];refine zHW (hb.pan hf) [0] (by decide) (by simp[eS,hP]) (by simp) fun τ=>?_
 refine⟨rfl,?_,?_⟩
 ·rw[zCS (by simp) (by simp)]; rfl
 ·rw[zCS (by simp) (by simp)]; rfl
end
def qHg:K:=G [kO 2 0,kO 3 1,kZ 4 kz0,kMb 5 false] (G [J 9 2 2,J 10 3 3,kC 11 96 [(kt 9),(kt 10)],M 8 11,kE 12 8 0,kE 13 8 1,kZ 6 kz0,S 6 12 31,M 7 13] (Z (K.wk (K.dops [(0,0,J 14 6 31),(1,0,M 15 7),(2,0,M 16 15),(3,0,T 16 true (D 17 6 3)),(4,0,T 16 true (L 18 17 1)),(5,0,T 16 true (kQi 19 18 0 true)),(6,0,kPf 20 16 19),(7,0,M 21 20),(8,2,T 21 true (D 22 6 3)),(9,2,T 21 true (L 23 22 1)),(10,0,T 21 true (kQi 24 23 1 true)),(11,0,kPf 25 21 24),(12,0,S 4 14 31),(13,0,M 5 25)])) kr))
def qQr:Nat→Option (List (Nat×Nat)):=fun r=>match r with | 2=>some [(0,0),(1,0),(2,0),(3,0),(4,0),(5,0),(6,0),(7,0),(8,2),(9,2),(10,0),(11,0),(12,0),(13,0)] | _=>none
theorem qOr:qG Tryz.prog Tryz.f69.ntmps qQr (Tryz.f69.body.getD .skip)=some qHg.erase:=by kernel_rfl
@[simp] theorem qOW:zB Tryz.prog 69=true:=by kernel_rfl
def zMI (p:Prg)(id:Id):A:=.tup [.agg (zG ((qY p.defs id).getD .zero)),bl ((qY p.defs id).isSome&&zHp ((qY p.defs id).getD .zero))]
theorem zW2 (p:Prg)(id:Id):Ret Tryz.prog 69 [.agg (zK p),.agg (zF id)] [] (zMI p id) []:=by
 have hP:=eP p;have hdf:=zDL p id;unfold zMI;unfold zAZ at hdf;generalize (qY p.defs id).getD .zero=d at *
 generalize (qY p.defs id).isSome=b at *
 refine qP Tryz.func69 rfl qOr (rs:=[.cell 4 31 true,.slot 5]) (by kernel_rfl) ?_;unfold qHg;simp[hP,zF];refine qA hdf (by simp[zK,zF]) (by simp) ?_;simp[zG];refine⟨_,_,zT (l:=[(4,.ptr 0 0),(6,.rptr (zG d)),(7,bl b)]) (σ':=[.box (kz0.map qS)]) [2] 1 (by simp) (by simp) (by simp) (by simp[zG]),?_⟩;cases b
 ·simp[zG];exact zA 0 (by simp[zG])
 ·by_cases h0:d.kind=0
  ·simp[zG,h0];exact zA 0 (by simp[zG,h0,zHp])
  ·by_cases h1:d.kind=1
   ·simp[zG,h0,h1];exact zA 0 (by simp[zG,h1,zHp])
   ·simp[zG,h0,h1];exact zA 0 (by simp[zG,h0,h1,zHp])
def zE3 (p:Prg)(id:Id)(vs:List Val)(fuel:Int):A:=match qY p.defs id with
 | none=>.tup [.agg (zC vz),int 0,int 6]
 | some d=>if zHp d=false then .tup [.agg (zC vz),int 0,int 6] else if vs.length≠d.slots.length then .tup [.agg (zC vz),int 0,int 1]
  else if zAP p (d.slots.map Slt.typ) vs=false then .tup [.agg (zC vz),int 0,int 1] else zM5 fuel (zEI p d vs fuel)
def qAC:K:=G [kO 4 0,kO 5 1,kO 6 2,kZ 8 [ki,ki,kl],kMi 9 0,kMi 10 0] (G [J 16 4 2,J 17 5 3,kC 18 69 [(kt 16),(kt 17)],M 15 18,kE 19 15 0,kE 20 15 1,kZ 11 kz0,S 11 19 31,M 12 20] (Z (G [M 21 12,kR 22 21] (Y 22 (G [kb 23 [ki,ki,kl] [],S 8 23 3,kMi 9 0,kMi 10 6] kr) ks)) (Z (G [L 24 6 1,kN 25 24,D 26 11 8,L 27 26 1,kN 28 27,kQ 29 25 28 true] (Y 29 (G [kb 30 [ki,ki,kl] [],S 8 30 3,kMi 9 0,kMi 10 1] kr) ks)) (Z (G [D 31 11 8,L 32 31 1,kN 33 32,kMi 34 0] (K.block 0 (K.loop (G [kB 35 34 33 .lss] (Z (Y 35 ks (K.exit 0)) (Z (K.block 1 (G [M 36 34,kX 37 32 34 11,J 38 37 11,kZ 14 kz5,M 13 36,S 14 38 11] (Z (K.dops [(0,0,J 39 4 2),(1,0,D 40 14 4),(2,0,J 41 40 5),(3,0,L 42 6 1),(4,0,M 43 13),(5,0,kX 44 42 43 3),(6,0,J 45 44 3),(7,0,kC 46 30 [(kt 39),(kt 41),(kt 45)]),(8,0,kR 47 46)]) (Y 47 (G [kb 48 [ki,ki,kl] [],S 8 48 3,kMi 9 0,kMi 10 1] kr) ks)))) (K.ops [kBi 49 34 1 .add,M 34 49]))))))) (G [J 50 4 2,M 51 3,⟨none,.clo (some 52) 71 [] [(kt 11),(kt 6)]⟩,kC 53 70 [(kt 50),(kt 51),(kt 52)],kE 54 53 0,kE 55 53 1,kE 56 53 2,S 8 54 3,M 9 55,M 10 56] kr)))))
theorem qIx:zQ Tryz.prog Tryz.f29.ntmps (Tryz.f29.body.getD .skip)=some qAC.erase:=by kernel_rfl
@[simp] theorem qMa:zB Tryz.prog 29=true:=by kernel_rfl
@[simp] theorem qM6:zB Tryz.prog 70=true:=by kernel_rfl
theorem zLk {p:Prg}{hs:List Hd}(hf:Fit p hs)(id:Id)(vs:List Val){gas fuel:Int}(hG:fuel=max gas 0)(hfu:fuel≤90000)(hz:∀v∈vs,zX v≤256∧yJ v≤24) :
 Ret Tryz.prog 29 [.agg (zK p),.agg (zF id),.sl vs.length (zN vs),int gas] [] (zE3 p id vs fuel) []:=by
 have hP:=eP p;have hbo:=zW2 p id;refine qP Tryz.func29 rfl qIx (rs:=[.cell 8 3 true,.slot 9,.slot 10]) (by kernel_rfl) ?_;unfold qAC;simp[hP,zF];refine qA hbo (by simp[zK,zF]) (by simp[zMI]) ?_;cases hd:qY p.defs id with
 | none =>
  rw[show zE3 p id vs fuel=.tup [.agg (zC vz),int 0,int 6] by simp[zE3,hd]];simp[zMI,hd,zG];exact zA 0 (by simp[zC,qX,qF,zS])
 | some d =>
 have hdm:=(zAk hd).1;obtain⟨s1,s6,_,snd,sty⟩:=hf.slots d hdm;cases hb:zHp d with
 | false =>
  rw[show zE3 p id vs fuel=.tup [.agg (zC vz),int 0,int 6] by simp[zE3,hd,hb]];simp[zMI,hd,hb,zG];exact zA 0 (by simp[zC,qX,qF,zS])
 | true =>
 simp[zMI,hd,hb,zG];by_cases hl:vs.length=d.slots.length
 ·have hfit:=fun i (hi:i<d.slots.length)=>zJ9 p d.slots[i].typ (vs[i]'(by omega)) (hz _ (jA3 _)).1 (hz _ (jA3 _)).2
  simp[hl];intro hls;refine jQ (S:=Nat) (fun i=>[(3,int gas),(4,.ptr 0 0),(6,.ptr 2 0),(8,.ptr 3 0),(11,.ptr 4 0),(32,.sl d.slots.length (yT d.slots)),(33,int d.slots.length),(34,int i)])
   (fun i=>[.box (zK p),.box (zF id),.box [.sl vs.length (zN vs)],.box [int 0,int 0,.nil],.box (zG d)]) (fun i=>i≤d.slots.length∧∀j (hj:j<i) (hj':j<d.slots.length),zAj p d.slots[j].typ (vs[j]'(by omega))=true) (fun i=>d.slots.length-i) 0 ⟨by omega,fun j hj=>by omega⟩
   (zT [0,1,2,3,4] 0 (by decide) (by simp) (by simp[hP,zG,zF,hl]) (by simp)) ?_
  rintro i ⟨hi,hft⟩;by_cases hil:i<d.slots.length
  ·have hiv:i<vs.length:=by omega
   have hdr:=jW hil;have hdv:=jI hiv;have hfi:=hfit i hil;cases hfv:zAj p d.slots[i].typ vs[i]with
   | false =>
    rw[hfv]at hfi;have hfl:zAP p (d.slots.map Slt.typ) vs=false:=by
     cases hq:zAP p (d.slots.map Slt.typ) vs with
     | false=>rfl
     | true =>
      have:=zGC hq i (by simpa using hil) hiv;rw[jBl,hfv]at this;cases this
    rw[show zE3 p id vs fuel=.tup [.agg (zC vz),int 0,int 1] by simp[zE3,hd,hb,hl,hfl]];simp[hP,hil,hiv,hdr,hdv,yQ,zG];refine qU hfi (by simp[hP,zM,zC]) (by simp) ?_;simp;exact zA 0 (by simp[zC,qX,qF,zS])
   | true =>
    rw[hfv]at hfi;simp[hP,hil,hiv,hdr,hdv,yQ,zG];refine qU hfi (by simp[hP,zM,zC]) (by simp) ?_;simp;refine zR (i+1) ⟨hil,fun j hj hj'=>?_⟩ (by omega) (zT [0,1,2,3,4] 0 (by decide) (by simp) (by simp[hP,zG]) (by simp[qD hil hls]));by_cases hji:j=i
    ·subst hji; exact hfv
    ·exact hft j (by omega) hj'
  ·have hie:i=d.slots.length:=by omega
   subst hie;have hfl:zAP p (d.slots.map Slt.typ) vs=true:=zJg (by simpa using hl) fun j h1 h2=>by rw[jBl];exact hft j (by simpa using h1) (by simpa using h1)
   rw[show zE3 p id vs fuel=zM5 fuel (zEI p d vs fuel) by simp[zE3,hd,hb,hl,hfl]];have hty:TyL p (d.slots.map Slt.typ) vs:=TyL.of (by simpa using hl) fun j hj=>by rw[jBl];exact zOn hf (sty _ (jA3 _)) _ (hft j (by omega) (by omega))
   have hV:=EnvT.args hty fun v hv=>(hz v hv).1
   have hIh:=zTn (F:=fuel) hf.bods (zUe hf) (by omega) fuel.toNat (by omega);have hca:=zP8 hIh d vs hl s6 (s:=⟨fuel,0,zSu p d.slots [],[]⟩) rfl (fun _=>⟨_,_,hf.bods _ d hd hb,hV,zTk snd vs hl⟩) ⟨by simp only; omega,by simp only; omega⟩;change RP _ _ _ _ _ (.agg (zC (zEI p d vs fuel).1)) (zEI p d vs fuel).2 at hca;have hsz:(zEI p d vs fuel).2.fail=0→zX (zEI p d vs fuel).1≤256:=fun h0=>by
    have he:zEI p d vs fuel=jU p 1 fuel.toNat d.body (zCG d.slots vs) ⟨fuel,0,zSu p d.slots []++[d.id],[]⟩:=by unfold zEI zAH; simp
    rw[he]at h0 ⊢;exact(hIh.snd _ _ _ _ _ (hf.bods _ d hd hb) hV h0).2
   generalize zEI p d vs fuel=r at *
   have hdo:=qDi (d:=d) (us:=vs) hG rfl hsz (zW5 hca) (zW4 hca);simp[hP];refine jO hdo [4,2] (by decide) (by simp[zG]) (by simp[hP]) ?_;by_cases h0:r.2.fail=0
   ·simp[zM5,h0,zC];exact zA 0 (by simp)
   ·simp[zM5,h0,zC];exact zA 0 (by simp)
 ·rw[show zE3 p id vs fuel=.tup [.agg (zC vz),int 0,int 1] by simp[zE3,hd,hb,hl]];have hl':¬((vs.length:Int)=d.slots.length):=by omega
  simp[hl']
  intros
  exact zA 0 (by simp[zC,qX,qF,zS])
end Go.Proofs.YtdnelmeboihpkaaGreatDoor
namespace Go.Proofs.YtdnelmeboihpkaaGreatDoor
open Go.Abs
def SE (s s':XS):Prop:=s.fuel=s'.fuel∧s.fail=s'.fail
def EqF (r r':Val×XS):Prop:=SE r.2 r'.2∧(r.2.fail=0→r.1=r'.1)
theorem SE.rfl' (s:XS):SE s s:=⟨rfl,rfl⟩
theorem zGc {s s':XS}(h:SE s s')(v:Val):EqF (v,s) (v,s'):=⟨h,fun _=>rfl⟩
section
variable {p:Prg}{f g:Evl}
theorem zPi (hf:zDh f)(h:∀e V s s',SE s s'→EqF (f e V s) (g e V s'))(V:List EVar):∀(l:List Exp) (s s':XS),SE s s'→SE (qZ f V l s).2 (qZ g V l s').2∧((qZ f V l s).2.fail=0→(qZ f V l s).1=(qZ g V l s').1)
 | [],s,s',hs=>⟨hs,fun _=>rfl⟩
 | e::l,s,s',hs=>by have h1:=h e V s s' hs;have h2:=zPi hf h V l _ _ h1.1;refine⟨by simp only[qZ]; exact h2.1,fun h0=>?_⟩;have h3:=zSX hf h0;simp only[qZ]at h0 ⊢;rw[←h2.2 h0,h1.2 h3]
theorem zNe (hf:zDh f)(hg:zDh g)(h:∀e V s s',SE s s'→EqF (f e V s) (g e V s'))(V:List EVar)(i:Id)(b:Exp):∀(l:List Val) (r r':Val×XS),EqF r r'→EqF (yH f V i b l r) (yH g V i b l r')
 | [],r,r',hr=>hr
 | x::l,r,r',hr=>by
  simp only[yH];refine zNe hf hg h V i b l _ _ ?_;by_cases h0:r.2.fail=0
  ·rw[hr.2 h0]; exact h _ _ _ _ hr.1
  ·rw[hf _ _ _ h0,hg _ _ _ (by rw[←hr.1.2]; exact h0)];exact zGc hr.1 _
theorem zYw {c c':Bool}{s s':XS}{v v':Val}(hs:SE s s')(h:s.fail=0→v=v'):EqF (zf c s v,s) (zf c' s' v',s'):=by refine⟨hs,fun hf=>?_⟩;simp only at hf ⊢;rw[zFE hf,zFE (by rw[←hs.2]; exact hf),h hf]
theorem zIT (h:∀e V s s',SE s s'→EqF (f e V s) (g e V s'))(d:Dfn){vs vs':List Val}{s s':XS}(hs:SE s s')(hv:s.fail=0→vs=vs'):EqF (zAH f d vs s) (zAH g d vs' s'):=by
 unfold zAH;by_cases hf:s.fail=0
 ·rw[if_neg (by simp[hf]),if_neg (by simp[←hs.2,hf]),hv hf];exact h _ _ _ _ hs
 ·rw[if_pos hf,if_pos (by rw[←hs.2]; exact hf)];exact zGc hs _
theorem zPr (hf:zDh f)(hg:zDh g)(h:∀e V s s',SE s s'→EqF (f e V s) (g e V s'))(e:Exp)(V:List EVar){s s':XS}(hs:SE s s'):EqF (yE f e V s) (yE g e V s'):=by
 unfold yE;have h0:=h (e.kids.headD .zero) V s s' hs;generalize f (e.kids.headD .zero) V s=r at *
 generalize g (e.kids.headD .zero) V s'=r' at *
 obtain⟨v,t⟩:=r;obtain⟨v',t'⟩:=r';by_cases hz:t.fail=0
 ·have hz':t'.fail=0:=h0.1.2.symm.trans hz;have hv:v=v':=h0.2 hz;subst hv;simp only[hz,hz',ne_eq,not_true,if_false]
  repeat' split
  all_goals first
   | exact zGc h0.1 _
   | exact h _ _ _ _ h0.1
   | exact zNe hf hg h _ _ _ _ _ _ (h _ _ _ _ h0.1)
 ·rw[if_pos hz,if_pos (by simpa using fun e:t'.fail=0=>hz (h0.1.2.trans e))];exact zGc h0.1 _
theorem zSH (hf:zDh f)(hg:zDh g)(h:∀e V s s',SE s s'→EqF (f e V s) (g e V s'))(a b:Nat)(e:Exp)(V:List EVar){s s':XS}(hs:SE s s'):EqF (qV p a f e V s) (qV p b g e V s'):=by
 unfold qV;obtain⟨h1,h2⟩:=zPi hf h V e.kids s s' hs;generalize qZ f V e.kids s=r at *
 generalize qZ g V e.kids s'=r' at *
 repeat' split
 all_goals first
  | exact zGc hs _
  | exact zPr hf hg h _ _ hs
  | exact zIT h _ h1 h2
  | exact zYw h1 fun hz=>by rw[h2 hz]
theorem zWD (a b:Nat){r r':Val×XS}(h:EqF r r'):EqF (zMx a r) (zMx b r'):=by
 unfold zMx;have e:SE (zBG r) (zBG r')∧((zBG r).fail=0→r.1=r'.1):=by
  unfold zBG;by_cases hf:r.2.fail=0
  ·have hf':=h.1.2.symm.trans hf;rw[←h.2 hf];by_cases hb:zHU r.1
   ·rw[if_pos ⟨hf,hb⟩,if_pos ⟨hf',hb⟩];exact⟨⟨h.1.1,rfl⟩,fun _=>rfl⟩
   ·rw[if_neg fun k=>hb k.2,if_neg fun k=>hb k.2];exact⟨h.1,fun _=>rfl⟩
  ·rw[if_neg fun k=>hf k.1,if_neg fun k=>hf (h.1.2.trans k.1)];exact⟨h.1,h.2⟩
 exact zYw e.1 e.2
theorem zJu (a b:Nat):∀(m:Nat) (e:Exp) (V:List EVar) (s s':XS),SE s s'→EqF (jU p a m e V s) (jU p b m e V s')
 | 0,e,V,s,s',hs=>by
  rw[jU,jU,hs.2];split
  ·exact zGc hs _
  ·exact zGc (s:={s with fail:=zCh}) (s':={s' with fail:=zCh}) ⟨hs.1,rfl⟩ _
 | m+1,e,V,s,s',hs=>by
  rw[jU,jU,hs.2,hs.1];split
  ·exact zGc hs _
  ·split
   ·exact⟨⟨rfl,rfl⟩,fun _=>rfl⟩
   ·exact zWD a b (zSH (zAL p a m) (zAL p b m) (zJu a b m) a b e V ⟨by simp only[zDf]; rw[hs.1],hs.2⟩)
end
theorem zTb {p:Prg}{hs:List Hd}(hf:Fit p hs)(id:Id)(vs:List Val)(gas:Int):zE3 p id vs (max gas 0)=zCF (qI p id vs gas):=by
 unfold zE3 qI;cases hd:qY p.defs id with
 | none=>rfl
 | some d =>
  have hk:=hf.kinds d (zAk hd).1;have hbb:zHp d=zOb d.kind:=by
   have h6:d.kind=0∨d.kind=1∨d.kind=2∨d.kind=3∨d.kind=4∨d.kind=5:=by omega
   unfold zHp zOb;rcases h6 with h | h | h | h | h | h<;>rw[h]<;>rfl
  simp only[hbb];by_cases h1:zOb d.kind=false
  ·rw[if_pos h1,if_pos h1]; rfl
  rw[if_neg h1,if_neg h1];by_cases h2:vs.length≠d.slots.length
  ·rw[if_pos h2,if_pos h2]; rfl
  rw[if_neg h2,if_neg h2];by_cases h3:zAP p (d.slots.map Slt.typ) vs=false
  ·rw[if_pos h3,if_pos h3]; rfl
  rw[if_neg h3,if_neg h3];have hn:(max gas 0).toNat=gas.toNat:=by omega
  by_cases hg:0≤gas
  ·have he:EqF (zEI p d vs (max gas 0)) (zCg p d vs gas):=by unfold zEI zCg;rw[hn];exact zIT (zJu 1 2 gas.toNat) d ⟨by simp only; omega,rfl⟩ fun _=>rfl
   obtain⟨⟨e1,e2⟩,e3⟩:=he;unfold zM5;by_cases h0:(zEI p d vs (max gas 0)).2.fail=0
   ·rw[if_pos h0,if_neg (by simp[←e2,h0])];simp only[zCF];rw[e3 h0,e1,show max gas 0=gas by omega]
   ·rw[if_neg h0,if_pos (by rw[←e2]; exact h0),e2];rfl
  ·have hz:gas.toNat=0:=by omega
   have e1:(zEI p d vs (max gas 0)).2.fail=zCh:=by unfold zEI zAH; rw[hn,hz]; simp[jU]
   have e2:(zCg p d vs gas).2.fail=zCh:=by unfold zCg zAH; rw[hz]; simp[jU]
   unfold zM5;rw[if_neg (by rw[e1]; decide),if_pos (by rw[e2]; decide),e1,e2];rfl
theorem zSf {r:Val×XS}(h:(zBG r).fail=0):¬zHU r.1∧r.2.fail=0:=by
 unfold zBG at h;split at h
 ·cases h
 ·rename_i h';exact⟨fun hb=>h' ⟨h,hb⟩,h⟩
theorem zVc (p:Prg)(fl n:Nat)(e:Exp)(V:List EVar)(s:XS)(h:(jU p fl n e V s).2.fail=0):¬zHU (jU p fl n e V s).1:=by
 cases n with
 | zero =>
  rw[jU]at h;split at h
  ·rename_i h'; exact(h' h).elim
  ·cases h
 | succ n =>
  rw[jU]at h⊢;split at h
  ·rename_i h'; exact(h' h).elim
  ·rename_i h0;rw[if_neg h0];split at h
   ·cases h
   ·rename_i h1;rw[if_neg h1];have:=zSf (show (zBG _).fail=0 from h);show ¬zHU (zf (fl==2) (zBG _) _);rw[zFE (show (zBG _).fail=0 from h)];exact this.1
section
variable {p:Prg}{hs:List Hd}(hf:Fit p hs)
include hf
theorem zKp (id:Id)(vs:List Val)(hz:∀v∈vs,zX v≤256∧yJ v≤24)(fuel:Int) :
 (zX (qI p id vs fuel).1≤256∧yJ (qI p id vs fuel).1≤24)∧0≤(qI p id vs fuel).2.1∧(qI p id vs fuel).2.1≤max fuel 0∧0≤(qI p id vs fuel).2.2∧(qI p id vs fuel).2.2≤100:=by
 have hvz:zX vz≤256∧yJ vz≤24:=by decide
 unfold qI;split
 ·exact⟨hvz,by simp only; omega⟩
 ·rename_i d hd;by_cases h1:zOb d.kind=false
  ·rw[if_pos h1]; exact⟨hvz,by simp only; omega⟩
  rw[if_neg h1];by_cases h2:vs.length≠d.slots.length
  ·rw[if_pos h2]; exact⟨hvz,by simp only; omega⟩
  rw[if_neg h2];by_cases h3:zAP p (d.slots.map Slt.typ) vs=false
  ·rw[if_pos h3]; exact⟨hvz,by simp only; omega⟩
  rw[if_neg h3];have hfl:=qAn p d vs fuel;unfold Fl at hfl;by_cases h0:(zCg p d vs fuel).2.fail=0
  ·rw[if_neg (by simp[h0])];have hg:0≤fuel:=Int.not_lt.1 fun hn=>by
    have e2:(zCg p d vs fuel).2.fail=zCh:=by unfold zCg zAH; rw[show fuel.toNat=0 by omega]; simp[jU]
    rw[h0]at e2;cases e2
   have he:EqF (zEI p d vs fuel) (zCg p d vs fuel):=by unfold zEI zCg;exact zIT (zJu 1 2 fuel.toNat) d ⟨rfl,rfl⟩ fun _=>rfl
   have hc:=zXR p d vs fuel;have hu:=zZW p d vs fuel hg;rw[he.1.1]at hc hu;obtain⟨_,_,_,snd,sty⟩:=hf.slots d (zAk hd).1;have hft:zAP p (d.slots.map Slt.typ) vs=true:=by simpa using h3
   have hl:vs.length=d.slots.length:=by omega
   have hty:TyL p (d.slots.map Slt.typ) vs:=TyL.of (by simpa using hl) fun j hj=>by
    rw[jBl];refine zOn hf (sty _ (jA3 _)) _ ?_;have:=zGC hft j (by simp; omega) (by omega)
    rwa [jBl]at this
   have hbB:zHp d=true:=zUd (by simpa using h1);have hrun:zCg p d vs fuel=jU p 2 fuel.toNat d.body (zCG d.slots vs) ⟨fuel,0,[d.id],[]⟩:=by unfold zCg zAH; simp
   have hsz:=zEE hf.bods 2 fuel.toNat d.body _ _ ⟨fuel,0,[d.id],[]⟩ d.res (hf.bods _ d hd hbB) (EnvT.args hty fun v hv=>(hz v hv).1) (by rw[←hrun]; exact h0);have hbig:=zVc p 2 fuel.toNat d.body (zCG d.slots vs) ⟨fuel,0,[d.id],[]⟩ (by rw[←hrun]; exact h0);rw[←hrun]at hsz hbig;have hdp:yJ (zCg p d vs fuel).1≤24:=by have:=zHs _ (by omega:zX (zCg p d vs fuel).1≤100000000);unfold zHU at hbig;omega
   exact⟨⟨hsz.2,hdp⟩,by simp only; omega⟩
  ·rw[if_pos h0];refine⟨hvz,?_⟩;simp only;omega
end
def zH (p:Prg):List Id→Val→Int→Val×Int×Int
 | [],v,_=>(v,0,0)
 | id::l,v,fuel=>if (qI p id [v] fuel).2.2≠0 then (vz,0,(qI p id [v] fuel).2.2)
  else if (zH p l (qI p id [v] fuel).1 (fuel-(qI p id [v] fuel).2.1)).2.2≠0 then (vz,0,(zH p l (qI p id [v] fuel).1 (fuel-(qI p id [v] fuel).2.1)).2.2)
  else ((zH p l (qI p id [v] fuel).1 (fuel-(qI p id [v] fuel).2.1)).1,(qI p id [v] fuel).2.1+(zH p l (qI p id [v] fuel).1 (fuel-(qI p id [v] fuel).2.1)).2.1,0)
section
variable {p:Prg}{hs:List Hd}(hf:Fit p hs)
include hf
theorem zDy:∀(l:List Id) (v:Val) (fuel:Int),zX v≤256∧yJ v≤24 →
 (zX (zH p l v fuel).1≤256∧yJ (zH p l v fuel).1≤24)∧0≤(zH p l v fuel).2.1∧(zH p l v fuel).2.1≤max fuel 0∧0≤(zH p l v fuel).2.2∧(zH p l v fuel).2.2≤100
 | [],v,fuel,hv=>⟨hv,by simp only[zH]; omega⟩
 | id::l,v,fuel,hv=>by
  have hvz:zX vz≤256∧yJ vz≤24:=by decide
  have h1:=zKp hf id [v] (by simpa using hv) fuel;have h2:=zDy l (qI p id [v] fuel).1 (fuel-(qI p id [v] fuel).2.1) h1.1;unfold zH;split
  ·exact⟨hvz,by simp only; omega⟩
  ·split
   ·exact⟨hvz,by simp only; omega⟩
   ·exact⟨h2.1,by simp only; omega⟩
end
def zKv (p:Prg)(l:List Id)(v:Val)(steps fuel:Int):Val×Int×Int :=
 if (zH p l v (fuel-steps)).2.2≠0 then (vz,0,(zH p l v (fuel-steps)).2.2) else ((zH p l v (fuel-steps)).1,steps+(zH p l v (fuel-steps)).2.1,0)
theorem zXj (p:Prg)(v:Val)(steps fuel:Int):zKv p [] v steps fuel=(v,steps,0):=by simp[zKv,zH]
theorem zXi {p:Prg}{id:Id}{l:List Id}{v:Val}{steps fuel:Int}(h:(qI p id [v] (fuel-steps)).2.2≠0):zKv p (id::l) v steps fuel=(vz,0,(qI p id [v] (fuel-steps)).2.2):=by simp[zKv,zH,h]
theorem zUD {p:Prg}{id:Id}{l:List Id}{v:Val}{steps fuel:Int}(h:(qI p id [v] (fuel-steps)).2.2=0) :
 zKv p (id::l) v steps fuel=zKv p l (qI p id [v] (fuel-steps)).1 (steps+(qI p id [v] (fuel-steps)).2.1) fuel:=by
 unfold zKv;rw[show fuel-(steps+(qI p id [v] (fuel-steps)).2.1)=fuel-steps-(qI p id [v] (fuel-steps)).2.1 by omega];simp only[zH,h,ne_eq,not_true,if_false];by_cases h2:(zH p l (qI p id [v] (fuel-steps)).1 (fuel-steps-(qI p id [v] (fuel-steps)).2.1)).2.2=0
 ·simp[h2,Int.add_assoc]
 ·simp[h2]
theorem zUE (p:Prg)(l:List Id)(v:Val)(fuel:Int):zKv p l v 0 fuel=if (zH p l v fuel).2.2≠0 then (vz,0,(zH p l v fuel).2.2) else ((zH p l v fuel).1,(zH p l v fuel).2.1,0):=by simp[zKv]
theorem zLr (p:Prg):∀(l:List Id) (v:Val) (fuel:Int),(zH p l v fuel).2.2≠0→(zH p l v fuel).1=vz∧(zH p l v fuel).2.1=0
 | [],v,fuel,h=>(h rfl).elim
 | id::l,v,fuel,h=>by
  unfold zH at h⊢;split
  ·exact⟨rfl,rfl⟩
  ·rename_i h1;rw[if_neg h1]at h;split
   ·exact⟨rfl,rfl⟩
   ·rename_i h2;rw[if_neg h2]at h;exact(h rfl).elim
theorem zRU (p:Prg)(l:List Id)(v:Val)(fuel:Int):zKv p l v 0 fuel=zH p l v fuel:=by
 rw[zUE];by_cases h:(zH p l v fuel).2.2=0
 ·rw[if_neg (by simp[h])];exact Prod.ext rfl (Prod.ext rfl h.symm)
 ·rw[if_pos h];have:=zLr p l v fuel h;exact Prod.ext this.1.symm (Prod.ext this.2.symm rfl)
def zCk (p:Prg)(l:List Id)(v:Val)(fuel:Int):Val×Int×Int :=
 if l=[] then (v,0,0)
 else if zHk p l=false then (vz,0,1)
 else match jT p (l.getD 0 .zero)with
  | some a=>if zAj p a.1 v=false then (vz,0,1) else zH p l v fuel
  | none=>(vz,0,1)
def yP (d:Dfn):Option Edg:=if d.kind=5 then (match d.slots with | [s]=>if s.typ.k=3∧d.res.k=3 then some ⟨d.id,s.typ.id,d.res.id⟩ else none | _=>none) else none
theorem zE5 {d:Dfn}{e:Edg}(h:yP d=some e):e.id=d.id:=by
 unfold yP at h;split at h
 ·split at h
  ·split at h
   ·cases h; rfl
   ·cases h
  ·cases h
 ·cases h
def yG (p:Prg):List Id:=zXV ((p.defs.filter fun d=>(jT p d.id).isSome).map (·.id))
def zBh (p:Prg):List Edg:=(yG p).filterMap fun x=>(qY p.defs x).bind yP
theorem zLd {p:Prg}{hs:List Hd}(hf:Fit p hs)(e:Edg):e∈zBh p↔∃d∈p.defs,yP d=some e:=by
 unfold zBh yG;rw[jCn];constructor
 ·rintro⟨x,_,h⟩;rw[jA5]at h;obtain⟨d,h1,h2⟩:=h;exact⟨d,(zAk h1).1,h2⟩
 ·rintro⟨d,hd,he⟩;obtain⟨i,hi,rfl⟩:=jAz hd;have hfd:=zGB hf.nd hi;refine⟨p.defs[i].id,?_,by rw[hfd]; exact he⟩;rw[zIB,jAm];refine⟨p.defs[i],List.mem_filter.2 ⟨hd,?_⟩,rfl⟩;unfold jT;rw[hfd];unfold yP at he;simp only;split at he
  ·rename_i hk;rw[if_pos hk];split at he
   ·rename_i s hs;rw[hs]; rfl
   ·cases he
  ·cases he
theorem zEx {p:Prg}:∀(l:List Id),((l.filterMap fun x=>(qY p.defs x).bind yP).map (·.id)).Sublist l
 | []=>by simp
 | x::l=>by
  rw[List.filterMap_cons];cases h:(qY p.defs x).bind yP with
  | none=>exact(zEx l).cons _
  | some e =>
   rw[jA5]at h;obtain⟨d,h1,h2⟩:=h;have:=zE5 h2;rw[(zAk h1).2]at this;simp only[jAd,this];exact(zEx l).cons_cons _
theorem zUs (p:Prg):SS ((zBh p).map (·.id)):=(zON _).sublist (zEx _)
theorem zOk {p:Prg}{hs:List Hd}(hf:Fit p hs){S:List Edg}(h1:SS (S.map (·.id)))(h2:∀e,e∈S↔∃d∈p.defs,yP d=some e):S=zBh p:=by
 have hid:S.map (·.id)=(zBh p).map (·.id):=h1.unique (zUs p) fun x=>by simp only[jAm,h2,zLd hf]
 have hinj:∀a b:Edg,(∃d∈p.defs,yP d=some a)→(∃d∈p.defs,yP d=some b)→a.id=b.id→a=b:=by rintro a b ⟨d,hd,ha⟩ ⟨d',hd',hb⟩ e;rw[zE5 ha,zE5 hb]at e;obtain⟨i,hi,rfl⟩:=jAz hd;obtain⟨j,hj,rfl⟩:=jAz hd';have hi':=zGB hf.nd hi;have hj':=zGB hf.nd hj;rw[e,hj']at hi';rw[←jAq hi',hb]at ha;exact(jAq ha).symm
 have key:∀(A B:List Edg),(∀e∈A,∃d∈p.defs,yP d=some e)→(∀e∈B,∃d∈p.defs,yP d=some e)→A.map (·.id)=B.map (·.id)→A=B:=by
  intro A;induction A with
  | nil=>intro B _ _ h; cases B with
   | nil=>rfl
   | cons b B=>simp at h
  | cons a A ih =>
   intro B hA hB h;cases B with
   | nil=>simp at h
   | cons b B =>
    simp only[jAd,jB3]at h;rw[hinj a b (hA a (by simp)) (hB b (by simp)) h.1,ih B (fun e he=>hA e (by simp[he])) (fun e he=>hB e (by simp[he])) h.2]
 exact key _ _ (fun e he=>(h2 e).1 he) (fun e he=>(zLd hf e).1 he) hid
theorem zV0 (p:Prg)(d:Dfn)(vs:List Val){f g:Int}(hg:f≤g)(h:(zCg p d vs f).2.fail=0) :
 (zCg p d vs g).1=(zCg p d vs f).1∧(zCg p d vs g).2.fail=0∧(zCg p d vs g).2.fuel=(zCg p d vs f).2.fuel+(g-f):=by
 have hf:0≤f:=Int.not_lt.1 fun hn=>by
  have e2:(zCg p d vs f).2.fail=zCh:=by unfold zCg zAH; rw[show f.toNat=0 by omega]; simp[jU]
  rw[h]at e2;cases e2
 have hn:g.toNat=f.toNat+(g-f).toNat:=by omega
 have hs:=zMJ (zN6 (p:=p) (k:=g-f) (by omega) 2 (g-f).toNat f.toNat) d vs (s:=⟨g,0,[],[]⟩) (s':=⟨f,0,[],[]⟩) ⟨by simp only; omega,rfl,rfl,rfl⟩;unfold zCg at h⊢;rw[hn];rcases hs with ⟨h1,h2⟩ | ⟨h1,_⟩
 ·exact⟨h2.symm,by rw[←h1.fail]; exact h,by have:=h1.fuel; omega⟩
 ·exact(h1 h).elim
theorem zSE (p:Prg)(id:Id)(vs:List Val){f g:Int}(hg:f≤g)(h:(qI p id vs f).2.2=0):qI p id vs g=qI p id vs f:=by
 unfold qI at h⊢;split
 ·rfl
 ·rename_i d hd;simp only[hd]at h;by_cases h1:zOb d.kind=false
  ·rw[if_pos h1,if_pos h1]
  rw[if_neg h1]at h⊢;rw[if_neg h1];by_cases h2:vs.length≠d.slots.length
  ·rw[if_pos h2,if_pos h2]
  rw[if_neg h2]at h⊢;rw[if_neg h2];by_cases h3:zAP p (d.slots.map Slt.typ) vs=false
  ·rw[if_pos h3,if_pos h3]
  rw[if_neg h3]at h⊢;rw[if_neg h3];by_cases h4:(zCg p d vs f).2.fail=0
  ·obtain⟨e1,e2,e3⟩:=zV0 p d vs hg h4;rw[if_neg (by simp[e2]),if_neg (by simp[h4]),e1,e3];exact Prod.ext rfl (Prod.ext (by simp only; omega) rfl)
  ·rw[if_pos h4]at h;exact(h4 h).elim
def zGk (a b:Val×Int×Int):Val×Int×Int:=if a.2.2≠0 then (vz,0,a.2.2) else if b.2.2≠0 then (vz,0,b.2.2) else (b.1,a.2.1+b.2.1,0)
theorem zDE {a:Val×Int×Int}(b:Val×Int×Int)(h:a.2.2≠0):zGk a b=(vz,0,a.2.2):=by simp[zGk,h]
theorem zCt {a b:Val×Int×Int}(h:a.2.2=0)(h2:b.2.2≠0):zGk a b=(vz,0,b.2.2):=by simp[zGk,h,h2]
theorem zBW {a b:Val×Int×Int}(h:a.2.2=0)(h2:b.2.2=0):zGk a b=(b.1,a.2.1+b.2.1,0):=by simp[zGk,h,h2]
theorem zDc (p:Prg)(id:Id)(l:List Id)(v:Val)(f:Int):zH p (id::l) v f=zGk (qI p id [v] f) (zH p l (qI p id [v] f).1 (f-(qI p id [v] f).2.1)):=rfl
theorem zRK (p:Prg)(l:List Id)(v:Val)(f:Int)(h:(zH p l v f).2.2≠0):(vz,0,(zH p l v f).2.2)=zH p l v f:=by have:=zLr p l v f h;exact Prod.ext this.1.symm (Prod.ext this.2.symm rfl)
theorem zFi (p:Prg):∀(l m:List Id) (v:Val) (f:Int),zH p (l++m) v f=zGk (zH p l v f) (zH p m (zH p l v f).1 (f-(zH p l v f).2.1))
 | [],m,v,f=>by
  simp only[jCa,zH,Int.sub_zero];by_cases h:(zH p m v f).2.2=0
  ·rw[zBW rfl h];exact Prod.ext rfl (Prod.ext (by simp) h)
  ·rw[zCt rfl h,zRK p m v f h]
 | id::l,m,v,f=>by
  rw[jB4,zDc,zDc,zFi p l m];by_cases h1:(qI p id [v] f).2.2=0
  ·by_cases h2:(zH p l (qI p id [v] f).1 (f-(qI p id [v] f).2.1)).2.2=0
   ·rw[zBW h1 h2];simp only;rw[show f-(qI p id [v] f).2.1-(zH p l (qI p id [v] f).1 (f-(qI p id [v] f).2.1)).2.1=f-((qI p id [v] f).2.1+(zH p l (qI p id [v] f).1 (f-(qI p id [v] f).2.1)).2.1) by omega];by_cases h3:(zH p m (zH p l (qI p id [v] f).1 (f-(qI p id [v] f).2.1)).1 (f-((qI p id [v] f).2.1+(zH p l (qI p id [v] f).1 (f-(qI p id [v] f).2.1)).2.1))).2.2=0
    ·rw[zBW h2 h3,zBW h1 rfl,zBW rfl h3,Int.add_assoc]
    ·rw[zCt h2 h3,zCt (b:=(vz,0,_)) h1 h3,zCt rfl h3]
   ·rw[zDE _ h2,zCt (b:=(vz,0,_)) h1 h2,zCt h1 h2,zDE (a:=(vz,0,_)) _ h2]
  ·rw[zDE _ h1,zDE _ h1,zDE (a:=(vz,0,_)) _ h1]
theorem zWX {α β : Type}(f : α→List β)(q : α→Bool)(B:Nat):∀L:List α,(∀x∈L,(f x).length≤if q x then B else 0)→(L.flatMap f).length≤(L.filter q).length*B
 | [],_=>by simp
 | x::L,h=>by
  have ih:=zWX f q B L fun y hy=>h y (by simp[hy])
  have hx:=h x (by simp);rw[jBh,jA7,List.filter_cons];cases hq:q x
  ·rw[hq]at hx;simp only[jAg,if_false]at hx ⊢;omega
  ·rw[hq]at hx;simp only[if_true]at hx ⊢;rw[jAk,jBj];omega
def qA3:K:=G [kO 4 0,kO 6 2,kZ 8 [ki,ki,kl],kMi 9 0,kMi 10 0] (G [kMi 11 0] (Z (G [M 17 1,kN 18 17,kMi 19 0] (K.block 0 (K.loop (G [kB 20 19 18 .lss] (Z (Y 20 ks (K.exit 0)) (Z (K.block 1 (G [kX 21 17 19 3,J 22 21 3,kZ 13 [ki,ki,ki],S 13 22 3] (G [J 24 4 2,J 25 13 3,J 26 6 3,kd 27 46 3 1 [ki,ki,kl] [(0,3,(kt 26))],M 28 3,M 29 11,kB 30 28 29 .sub,kC 31 29 [(kt 24),(kt 25),(kt 27),(kt 30)],M 23 31,kE 32 23 0,kE 33 23 1,kE 34 23 2,kZ 14 [ki,ki,kl],S 14 32 3,M 15 33,M 16 34] (Z (G [M 35 16,kQi 36 35 0 true] (Y 36 (G [kb 37 [ki,ki,kl] [],M 38 16,S 8 37 3,kMi 9 0,M 10 38] kr) ks)) (G [J 39 14 3,S 6 39 3] (K.ops [M 40 11,M 41 15,kB 42 40 41 .add,M 11 42])))))) (K.ops [kBi 43 19 1 .add,M 19 43]))))))) (G [J 44 6 3,M 45 11,S 8 44 3,M 9 45,kMi 10 0] kr)))
theorem qIk:zQ Tryz.prog Tryz.f45.ntmps (Tryz.f45.body.getD .skip)=some qA3.erase:=by kernel_rfl
@[simp] theorem qLT:zB Tryz.prog 45=true:=by kernel_rfl
def qAx:K:=G [kO 4 0,kO 6 2,kZ 8 [ki,ki,kl],kMi 9 0,kMi 10 0] (Z (G [M 14 1,kN 15 14,kQi 16 15 0 false] (Y 16 (G [J 17 6 3,S 8 17 3,kMi 9 0,kMi 10 0] kr) ks)) (G [J 19 4 2,M 20 1,kC 21 44 [(kt 19),(kt 20)],M 18 21,kE 22 18 0,kE 23 18 1,kE 24 18 2,kZ 11 kz2,kZ 12 kz2,S 11 22 5,S 12 23 5,M 13 24] (Z (G [M 25 13,kR 26 25,M 27 26,T 27 false (J 28 4 2),T 27 false (J 29 11 5),T 27 false (J 30 6 3),T 27 false (kC 31 30 [(kt 28),(kt 29),(kt 30)]),T 27 false (kR 32 31),kPt 33 27 32] (Y 33 (G [kb 34 [ki,ki,kl] [],S 8 34 3,kMi 9 0,kMi 10 1] kr) ks)) (G [J 35 4 2,M 36 1,J 37 6 3,M 38 3,kC 39 45 [(kt 35),(kt 36),(kt 37),(kt 38)],kE 40 39 0,kE 41 39 1,kE 42 39 2,S 8 40 3,M 9 41,M 10 42] kr))))
theorem qIe:zQ Tryz.prog Tryz.f16.ntmps (Tryz.f16.body.getD .skip)=some qAx.erase:=by kernel_rfl
@[simp] theorem qLN:zB Tryz.prog 16=true:=by kernel_rfl
theorem zZu (p:Prg)(l:List Id)(v:Val)(fuel:Int):zKv p l v 0 fuel=zH p l v fuel:=zRU p l v fuel
theorem zNg {p:Prg}{hs:List Hd}(hf:Fit p hs)(l:List Id)(hl:l.length≤1000000)(v:Val)(hv:zX v≤256∧yJ v≤24)(fuel:Int)(h0 : -90000≤fuel)(h1:fuel≤90000) :
 Ret Tryz.prog 45 [.agg (zK p),.sl l.length (zO l),.agg (zC v),int fuel] [] (zCF (zH p l v fuel)) []:=by
 have hP:=eP p;refine zI Tryz.func45 rfl qIk (rs:=[.cell 8 3 true,.slot 9,.slot 10]) (by kernel_rfl) ?_;unfold qA3;simp -implicitDefEqProofs [hP,zC];intro hlm;refine jQ (S:=Nat×Val×Int) (fun s=>[(1,.sl l.length (zO l)),(3,int fuel),(4,.ptr 0 0),(6,.ptr 1 0),(8,.ptr 2 0),(11,int s.2.2),(17,.sl l.length (zO l)),(18,int l.length),(19,int s.1)]) (fun s=>[.box (zK p),.box (zC s.2.1),.box [int 0,int 0,.nil]])
  (fun s=>s.1≤l.length∧(zX s.2.1≤256∧yJ s.2.1≤24)∧0≤s.2.2∧s.2.2≤max fuel 0∧zH p l v fuel=zKv p (l.drop s.1) s.2.1 s.2.2 fuel) (fun s=>l.length-s.1) (0,v,0) ⟨by simp,hv,by simp,by simp only; omega,by simp[zZu]⟩
  (zT [0,1,2] 0 (by decide) (by simp) (by simp[hP,zC]) (by simp)) ?_
 rintro⟨i,x,st⟩ ⟨hi,hx,hs0,hs1,ho⟩;simp only at hi hx hs0 hs1 ho;by_cases h:i<l.length
 ·have hd:l.drop i=l[i]::l.drop (i+1):=jAt h;have hw:=zA9 i (by omega);have hw2:=jP (fuel-st) (by omega);simp -implicitDefEqProofs [hP,zC,h,jZ h,hw2];have hcall:=zLk hf l[i] [x] (gas:=fuel-st) (fuel:=max (fuel-st) 0) rfl (by omega) (by simpa using hx);rw[zTb hf]at hcall;refine qA hcall (by simp[hP,zF,zC,zDa]) (by simp[zCF,zC]) ?_;have hsm:=zKp hf l[i] [x] (by simpa using hx) (fuel-st);rw[hd]at ho;by_cases he:(qI p l[i] [x] (fuel-st)).2.2=0
  ·rw[zUD he]at ho;simp -implicitDefEqProofs [zCF,zC,he];have hw3:IntKind.i64.wrap (st+(qI p l[i] [x] (fuel-st)).2.1)=st+(qI p l[i] [x] (fuel-st)).2.1:=IntWalk.i64_in _ (by omega);exact zR (i+1,(qI p l[i] [x] (fuel-st)).1,st+(qI p l[i] [x] (fuel-st)).2.1) ⟨h,hsm.1,by simp only; omega,by simp only; omega,ho⟩ (by simp only; omega) (zT [0,1,2] 0 (by decide) (by simp) (by simp[hP,zC]) (by simp[hw,hw3]))
  ·rw[zXi he]at ho;simp -implicitDefEqProofs [zCF,zC,he];exact zA 0 (by simp[ho,zCF,zC,vz,qX,qF,zS])
 ·have hi':i=l.length:=by omega
  subst hi';rw[List.drop_length,zXj]at ho;simp -implicitDefEqProofs [hP,zC];exact zA 0 (by simp[ho,zCF,zC])
theorem zHQ {p:Prg}{hs:List Hd}(hf:Fit p hs)(l:List Id)(hl:l.length≤1000000)(v:Val)(hv:zX v≤256∧yJ v≤24)(fuel:Int)(h0 : -90000≤fuel)(h1:fuel≤90000) :
 Ret Tryz.prog 16 [.agg (zK p),.sl l.length (zO l),.agg (zC v),int fuel] [] (zCF (zCk p l v fuel)) []:=by
 have hP:=eP p;refine zI Tryz.func16 rfl qIe (rs:=[.cell 8 3 true,.slot 9,.slot 10]) (by kernel_rfl) ?_;unfold qAx;cases hl0:l with
 | nil =>
  simp -implicitDefEqProofs [hP,zC];exact zA 0 (by simp[zCk,zCF,zC])
 | cons y l' =>
  rw[←hl0];have hne:l≠[]:=by rw[hl0]; simp
  have hlen:¬((l.length:Int)=0):=by rw[hl0]; simp; omega
  simp -implicitDefEqProofs [hP,zC,hlen,hne];intro _;refine qA (zYX p l hl) (by simp[hP]) (by simp[zJP,zM]) ?_;by_cases hp:zHk p l=true
  ·have hlead:∃a,jT p (l.getD 0 .zero)=some a:=by
    have h1:zDQ p l 1=true:=zQ7 (List.length_pos_iff.2 hne) hp;simp only[zDQ,jBu,zIF]at h1;cases hc:jT p (l.getD 0 .zero)with
    | none=>rw[hc]at h1; cases h1
    | some a=>exact⟨a,rfl⟩
   obtain⟨a,ha⟩:=hlead;have hfro:zXb p l=a.1:=by rw[zXb,ha]; rfl
   have hal:zCk p l v fuel=if zAj p a.1 v=false then (vz,0,1) else zH p l v fuel:=by rw[zCk,if_neg hne,if_neg (by rw[hp]; decide),ha]
   simp -implicitDefEqProofs [zJP,zIe,hp,hne,hfro,zM];refine qA (zJ9 p a.1 v hv.1 hv.2) (by simp[hP,zM,zC]) (by simp) ?_;cases hfi:zAj p a.1 v
   ·simp -implicitDefEqProofs;exact zA 0 (by simp[hal,hfi,zCF,zC,vz,qX,qF,zS])
   ·simp -implicitDefEqProofs;refine qA (zNg hf l hl v hv fuel h0 h1) (by simp[hP,zC]) (by simp[zCF,zC]) ?_;simp -implicitDefEqProofs [zCF,zC];exact zA 0 (by simp[hal,hfi,zCF,zC])
  ·have hp':zHk p l=false:=by simpa using hp
   have hal:zCk p l v fuel=(vz,0,1):=by rw[zCk,if_neg hne,if_pos hp']
   simp -implicitDefEqProofs [zJP,zIe,hp',zM];exact zA 0 (by simp[hal,zCF,zC,vz,qX,qF,zS])
def qAI:K:=G [kO 2 0,kO 3 1,kZ 4 kz2,kZ 5 kz2,kMb 6 false] (G [J 10 2 2,J 11 3 3,kC 12 36 [(kt 10),(kt 11)],M 9 12,kE 13 9 0,kE 14 9 1,kZ 7 kz0,S 7 13 31,M 8 14] (Z (G [M 15 8,kR 16 15,M 17 16,T 17 false (D 18 7 3),T 17 false (L 19 18 1),T 17 false (kQi 20 19 5 true),kPt 21 17 20,M 22 21,T 22 false (D 23 7 8),T 22 false (L 24 23 1),T 22 false (kN 25 24),T 22 false (kQi 26 25 1 true),kPt 27 22 26] (Y 27 (G [kb 28 kz2 [],kb 29 kz2 [],S 4 28 5,S 5 29 5,kMb 6 false] kr) ks)) (Z (K.dops [(0,0,D 30 7 8),(1,0,L 31 30 1),(2,0,kXi 32 31 11 0),(3,0,D 33 32 4),(4,0,J 34 33 5),(5,2,D 35 7 9),(6,2004,J 36 35 5),(7,1004,S 4 34 5),(8,0,S 5 36 5),(9,0,kMb 6 true)]) kr)))
def qJA:Nat→Option (List (Nat×Nat)):=fun r=>match r with | 4=>some [(0,0),(1,0),(2,0),(3,0),(4,0),(5,2),(6,2004),(7,1004),(8,0),(9,0)] | _=>none
theorem qI4:qG Tryz.prog Tryz.f13.ntmps qJA (Tryz.f13.body.getD .skip)=some qAI.erase:=by kernel_rfl
@[simp] theorem qMs:zB Tryz.prog 13=true:=by kernel_rfl
def zBX (a:Option (Typ×Typ)):A:=.tup [.agg (zM (a.getD (.zero,.zero)).1),.agg (zM (a.getD (.zero,.zero)).2),bl a.isSome]
theorem zGl (p:Prg)(hL:p.defs.length≤1000000)(id:Id):Ret Tryz.prog 13 [.agg (zK p),.agg (zF id)] [] (zBX (jT p id)) []:=by
 have hP:=eP p;have hdf:=zGN p hL id;unfold zAZ at hdf;refine qP Tryz.func13 rfl qI4 (rs:=[.cell 4 5 true,.cell 5 5 true,.slot 6]) (by kernel_rfl) ?_;unfold qAI;simp -implicitDefEqProofs [hP,zF];refine qA hdf (by simp[zK,zF]) (by simp) ?_;cases hd:qY p.defs id with
 | none =>
  have hv:jT p id=none:=by simp[jT,hd]
  simp -implicitDefEqProofs [zG];exact zA 0 (by simp[zBX,hv,zM,Typ.zero,Id.zero])
 | some d =>
  by_cases hk:d.kind=5
  ·match hs:d.slots with
   | [s] =>
    have hv:jT p id=some (s.typ,d.res):=by simp[jT,hd,hk,hs]
    have hcs:yT [s]=yQ s:=by simp[yT]
    simp -implicitDefEqProofs [zG,hk,hs,hcs,yQ];exact fun _=>zA 0 (by simp[zBX,hv,zM])
   | [] =>
    have hv:jT p id=none:=by simp[jT,hd,hs]
    simp -implicitDefEqProofs [zG,hk,hs];exact zA 0 (by simp[zBX,hv,zM,Typ.zero,Id.zero])
   | s::s'::l =>
    have hv:jT p id=none:=by simp[jT,hd,hs]
    have h1:¬((l.length:Int)+1+1=1):=by omega
    simp -implicitDefEqProofs [zG,hk,hs,h1]
    first | exact fun _=>zA 0 (by simp[zBX,hv,zM,Typ.zero,Id.zero]) | exact zA 0 (by simp[zBX,hv,zM,Typ.zero,Id.zero])
  ·have hv:jT p id=none:=by simp[jT,hd,hk]
   simp -implicitDefEqProofs [zG,hk];exact zA 0 (by simp[zBX,hv,zM,Typ.zero,Id.zero])
@[simp] theorem qGD {rf g}(a:Option (Typ×Typ)):vw rf g (zBX a)=zBX a:=by cases a<;>simp[zBX,zM]
@[simp] theorem qMr:zB Tryz.prog 46=true:=by kernel_rfl
@[simp] theorem qMq:zB Tryz.prog 48=true:=by kernel_rfl
@[simp] theorem qNF {rf g}(r:Val×Int×Int):vw rf g (zCF r)=zCF r:=by simp[zCF,zC]
@[simp] theorem qMo:zB Tryz.prog 17=true:=by kernel_rfl
@[simp] theorem qMt:zB Tryz.prog 54=true:=by kernel_rfl
def qA9:K:=G [kO 2 0,kO 3 1,kMb 4 false] (G [J 8 2 2,J 9 3 3,kC 10 96 [(kt 8),(kt 9)],M 7 10,kE 11 7 0,kE 12 7 1,kZ 5 kz0,S 5 11 31,M 6 12] (G [M 13 6,M 14 13,T 14 true (D 15 5 3),T 14 true (L 16 15 1),T 14 true (kQi 17 16 0 false),T 14 true (M 18 17),T 18 false (D 19 5 3),T 18 false (L 20 19 1),T 18 false (kQi 21 20 1 false),T 14 true (kPt 22 18 21),kPf 23 14 22,M 4 23] kr))
theorem qIq:zQ Tryz.prog Tryz.f52.ntmps (Tryz.f52.body.getD .skip)=some qA9.erase:=by kernel_rfl
@[simp] theorem qLY:zB Tryz.prog 52=true:=by kernel_rfl
def zBn (p:Prg)(id:Id):Bool:=match qY p.defs id with
 | some d=>decide (d.kind=0)||decide (d.kind=1)
 | none=>false
theorem zNQ (p:Prg)(id:Id):Ret Tryz.prog 52 [.agg (zK p),.agg (zF id)] [] (bl (zBn p id)) []:=by
 have hP:=eP p;have hdf:=zDL p id;unfold zAZ at hdf;refine zI Tryz.func52 rfl qIq (rs:=[.slot 4]) (by kernel_rfl) ?_;unfold qA9;simp -implicitDefEqProofs [hP,zF];refine qA hdf (by simp[zK,zF]) (by simp) ?_;cases hd:qY p.defs id with
 | none =>
  simp -implicitDefEqProofs [zG];exact zA 0 (by simp[zBn,hd])
 | some d =>
  by_cases hk:d.kind=0
  ·simp -implicitDefEqProofs [zG,hk];exact zA 0 (by simp[zBn,hd,hk])
  ·simp -implicitDefEqProofs [zG,hk];exact zA 0 (by simp[zBn,hd,hk])
end Go.Proofs.YtdnelmeboihpkaaGreatDoor
