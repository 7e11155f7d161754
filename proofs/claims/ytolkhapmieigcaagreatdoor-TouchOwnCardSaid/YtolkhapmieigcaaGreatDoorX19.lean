/- Weights of values; the orders are linear; slices.SortFunc at values. -/
import Derived.Test.YtolkhapmieigcaaGreatDoorX18
import Derived.Tactics2
import Derived.Handy
import Derived.Deep.Draws
import Derived.Deep.RegionLaw
import Derived.Laws.IdiomCopy
import Derived.Laws.Rows
import Derived.RecoverIn
import Derived.Tactics
set_option linter.unusedVariables false
set_option maxHeartbeats 8000000
set_option maxRecDepth 100000
set_option linter.unusedSimpArgs false
namespace Go.Proofs.YtolkhapmieigcaaGreatDoor
open Go.Abs
def zJo(v:Val):Int:=if v.k=0/\v.n<0 then w64 (0-v.n)else if v.k=0\/v.k=1\/v.k=3 then v.n else if v.k=4 then v.kids.length else 0
theorem zN8(v:Val)(h0:0<=v.k)(h4:v.k<=4):my 189 [.agg (zN v)] [] (int (zJo v)) []:=by
 refine mq [] [.slot 2] Tryz.func189 (by kernel_rfl) ?_
 (conv in kq _ _=>cbv)
 by_cases hk:v.k=0
 .by_cases hn:v.n<0
  .simp -implicitDefEqProofs [zN,hk,hn];exact fun _=>zB 0 (by simp[zJo,hk,hn,w64])
  .simp -implicitDefEqProofs [zN,hk,hn];exact fun _=>zB 0 (by simp[zJo,hk,hn])
 .simp -implicitDefEqProofs [zN,hk];intro hl;have hc:v.k=1\/v.k=2\/v.k=3\/v.k=4:=by omega
  rcases hc with h|h|h|h<;>simp -implicitDefEqProofs [h]<;>exact zB 0 (by simp[zJo,h])
def uG:Val->Int
 | .mk k n l=>if k<0\/4<k then 0 else if k=0\/k=1 then zJo (.mk k n l)else l.attach.foldl (fun s x=>w64 (s+uG x.1)) (zJo (.mk k n l))
termination_by v=>qY v
decreasing_by
 have:=sJ x.2;simp only[qY];omega
def xH(s:Int)(l:wI):Int:=l.foldl (fun s x=>w64 (s+uG x)) s
theorem o5(v:Val):uG v=if v.k<0\/4<v.k then 0 else if v.k=0\/v.k=1 then zJo v else xH (zJo v) v.kids:=by
 cases v with
 |mk k n l =>
  rw[uG];simp only[Val.k,Val.kids,xH]
  congr 2
  rw[List.foldl_attach (f:=fun s x=>w64 (s+uG x))]
theorem zIp{s:Int}{l:wI}{i:Nat}(h:i<l.length):xH s (l.take (i+1))=IntKind.i64.wrap (xH s (l.take i)+uG l[i]):=by rw[xH,jA7 h,jBv];rfl
theorem zIx(v:Val):my 143 [.agg (zN v)] [] (int (uG v)) []:=by
 refine mq [] [.slot 2] Tryz.func143 (by kernel_rfl) ?_
 (conv in kq _ _=>cbv)
 by_cases hk:v.k<0
 .simp -implicitDefEqProofs [zN,hk];exact zB 0 (by simp[o5 v,hk])
 by_cases hk':4<v.k
 .simp -implicitDefEqProofs [zN,hk,hk'];exact zB 0 (by simp[o5 v,hk'])
 simp -implicitDefEqProofs [zN,hk,hk'];refine mu (zN8 v (by omega) (by omega)) (by simp[zN]) ?_;by_cases h0:v.k=0
 .simp -implicitDefEqProofs [h0];exact zB 0 (by simp[o5 v,h0])
 by_cases h1:v.k=1
 .simp -implicitDefEqProofs [h1];exact zB 0 (by simp[o5 v,h1])
 simp -implicitDefEqProofs [h0,h1];intro hl;refine qI (S:=Nat) (fun i=>[(3,int (xH (zJo v) (v.kids.take i))),(26,.sl v.kids.length (zT v.kids)),(27,int v.kids.length),(28,int i)]) (fun s=>[]) (fun i=>i<=v.kids.length) (fun i=>v.kids.length-i) 0 (by simp)
  (mw [] 0 (by rfl) (by simp[xH])) ?_
 intro i hi;simp -implicitDefEqProofs;refine jI (fun h=>?_) (fun h=>?_)<;>simp at h
 .simp -implicitDefEqProofs [h,jE h];refine mu (zIx v.kids[i]) (by simp[zN]) ?_;simp -implicitDefEqProofs;refine zO (i+1) h (by omega) (mw [] 0 (by rfl) (by simp[zZ h hl,zIp h]))
 .have:i=v.kids.length:=by omega
  subst this;simp -implicitDefEqProofs;exact zB 0 (by simp[o5 v,hk,hk',h0,h1])
termination_by qY v
decreasing_by exact cV (jA0 _)
structure Lin{α:Type}(c : α->α->Int):Prop where
 refl:∀x,c x x=0
 eq:∀x y,c x y=0->x=y
 swap:∀x y,c x y<0↔0<c y x
 trans:∀x y z,c x y<0->c y z<0->c x z<0
theorem Lin.ord{α:Type}{c : α->α->Int}(h:Lin c):Ord c where
 irrefl x:=by rw[h.refl];omega
 trans:=h.trans
 ntrans x y z h1 h2 h3:=by
  by_cases e1:c x y=0
  .rw[h.eq _ _ e1]at h3;exact h2 h3
  by_cases e2:c y z=0
  .rw[<-h.eq _ _ e2]at h3;exact h1 h3
  have h4:c y x<0:=(h.swap y x).2 (by omega);have h5:=h.trans _ _ _ h4 h3;exact h2 h5
 anti x y h1 h2:=by
  by_cases e1:c x y=0
  .exact h.eq _ _ e1
  .have:c y x<0:=(h.swap y x).2 (by omega);exact(h2 this).elim
variable{a b:Int}
theorem mN:aW a b<0↔a<b:=by
 unfold aW;split
 .omega
 .split<;>omega
theorem vD:0<aW a b↔b<a:=by
 unfold aW;split
 .omega
 .split<;>omega
theorem yR:aW a b=0↔a=b:=by
 unfold aW;split
 .omega
 .split<;>omega
theorem qGs:Lin aW where
 refl x:=yR.2 rfl
 eq x y h:=yR.1 h
 swap x y:=by rw[mN,vD]
 trans x y z:=by simp only[mN];omega
theorem zJn(a:Int):orI [a]=a:=by simp only[orI];split<;>simp_all
theorem zFZ(a:Int)(l:wC):orI (a::l)=if a=0 then orI l else a:=rfl
theorem zSE{α:Type}{c d : α->α->Int}(hc0:∀x,c x x=0)(hcs:∀x y,c x y<0↔0<c y x)(hct:∀x y z,c x y<0->c y z<0->c x z<0)
 (hce:∀x y z,c x y=0->c x z=c y z/\c z x=c z y)(hd0:∀x,d x x=0)(hde:∀x y,c x y=0->d x y=0->x=y)(hds:∀x y,c x y=0->(d x y<0↔0<d y x))
 (hdt:∀x y z,c x y=0->c y z=0->d x y<0->d y z<0->d x z<0):Lin fun x y=>if c x y=0 then d x y else c x y where
 refl x:=by simp[hc0,hd0]
 eq x y h:=by
  split at h
  .rename_i hc;exact hde x y hc h
  .rename_i hc;exact(hc h).elim
 swap x y:=by
  by_cases h:c x y=0
  .have h':c y x=0:=by have:=(hce x y x h).1;rw[hc0]at this;exact this.symm
   simp only[h,h',if_true];exact hds x y h
  .have h':¬c y x=0:=fun e=>h (by
    have:=(hce y x y e).1;rw[hc0]at this;exact this.symm)
   simp only[h,h',if_false];exact hcs x y
 trans x y z:=by
  by_cases h1:c x y=0
  .by_cases h2:c y z=0
   .have h3:c x z=0:=by rw[(hce x y z h1).1];exact h2
    simp only[h1,h2,h3,if_true];exact hdt x y z h1 h2
   .have h3:¬c x z=0:=by rw[(hce x y z h1).1];exact h2
    simp only[h1,h2,h3,if_true,if_false];intro _ h;rw[(hce x y z h1).1];exact h
  .by_cases h2:c y z=0
   .have h3:¬c x z=0:=by rw[<-(hce y z x h2).2];exact h1
    simp only[h1,h2,h3,if_true,if_false];intro h _;rw[<-(hce y z x h2).2];exact h
   .simp only[h1,h2,if_false];intro h4 h5;have h6:=hct x y z h4 h5;have h3:¬c x z=0:=by omega
    simp only[h3,if_false];exact h6
mutual
theorem zCL:∀(a:Val),mO a a=0
 | .mk k n l=>by
  rw[fN];have:dP (.mk k n l) (.mk k n l)=0:=by simp[dP,orI,yR.2]
  simp only[this,ne_eq,not_true_eq_false,if_false,Val.kids];exact zAJ l
theorem zAJ:∀(l:wI),aL l l=0
 |[]=>by simp only[aL]
 |a::l=>by simp only[aL,zCL a,ne_eq,not_true_eq_false,if_false];exact zAJ l
end
theorem oA{a b:Val}:dP a b=0↔a.k=b.k/\a.n=b.n/\a.kids.length=b.kids.length:=by
 simp only[dP,orI];by_cases h1:a.k=b.k
 .by_cases h2:a.n=b.n
  .by_cases h3:a.kids.length=b.kids.length
   .simp[h1,h2,h3,yR.2]
   .have:¬aW a.kids.length b.kids.length=0:=fun e=>h3 (by have:=yR.1 e;omega)
    simp[h1,h2,h3,yR.2,this]
  .have:¬aW a.n b.n=0:=fun e=>h2 (yR.1 e)
   simp[h1,h2,yR.2,this]
 .have:¬aW a.k b.k=0:=fun e=>h1 (yR.1 e)
  simp[h1,this]
mutual
theorem rO:∀(a b:Val),mO a b=0->a=b
 | .mk k n l,.mk k' n' l',h=>by
  rw[fN]at h;split at h
  .rename_i h1;exact(h1 h).elim
  .rename_i h1;simp only[ne_eq,Decidable.not_not]at h1;obtain⟨e1,e2,e3⟩:=oA.1 h1;simp only[Val.k,Val.n,Val.kids]at e1 e2 e3 h;rw[e1,e2,zAL l l' h]
theorem zAL:∀(l l':wI),aL l l'=0->l=l'
 |[],[],_=>rfl
 |[],_::_,h=>by simp[aL]at h
 |_::_,[],h=>by simp[aL]at h
 |a::l,b::l',h=>by
  simp only[aL]at h;split at h
  .rename_i h1;exact(h1 h).elim
  .rename_i h1;simp only[ne_eq,Decidable.not_not]at h1;rw[rO a b h1,zAL l l' h]
end
theorem zBV{a b:Val}:dP a b<0↔a.k<b.k\/(a.k=b.k/\(a.n<b.n\/(a.n=b.n/\a.kids.length<b.kids.length))):=by
 simp only[dP,zFZ,zJn];by_cases h1:a.k=b.k
 .by_cases h2:a.n=b.n
  .simp[h1,h2,yR.2,mN];simp only[orI];split<;>rename_i h<;>simp_all [mN];have:=yR.1 h;omega
  .have:¬aW a.n b.n=0:=fun e=>h2 (yR.1 e)
   simp[h1,h2,yR.2,this,mN]
 .have:¬aW a.k b.k=0:=fun e=>h1 (yR.1 e)
  simp[h1,this,mN]
theorem zS3{a b:Val}:0<dP a b↔dP b a<0:=by
 rw[zBV];simp only[dP,zFZ,zJn];by_cases h1:a.k=b.k
 .by_cases h2:a.n=b.n
  .simp[h1,h2,yR.2];simp only[orI];split<;>rename_i h<;>simp_all [vD];have:=yR.1 h;omega
  .have:¬aW a.n b.n=0:=fun e=>h2 (yR.1 e)
   simp[h1,yR.2,this,vD];omega
 .have:¬aW a.k b.k=0:=fun e=>h1 (yR.1 e)
  simp[this,vD];omega
mutual
theorem zPn:∀(a b:Val),mO a b<0↔0<mO b a
 | .mk k n l,.mk k' n' l'=>by
  rw[fN,fN];by_cases h:dP (.mk k n l) (.mk k' n' l')=0
  .have h':dP (.mk k' n' l') (.mk k n l)=0:=by rw[oA]at *;omega
   simp only[h,h',ne_eq,not_true_eq_false,if_false,Val.kids];exact zAK l l'
  .have h':¬dP (.mk k' n' l') (.mk k n l)=0:=by rw[oA]at *;omega
   simp only[h,h',ne_eq,not_false_eq_true,if_true];rw[zS3]
theorem zAK:∀(l l':wI),aL l l'<0↔0<aL l' l
 |[],[]=>by simp[aL]
 |[],_::_=>by simp[aL]
 |_::_,[]=>by simp[aL]
 |a::l,b::l'=>by
  simp only[aL];by_cases h:mO a b=0
  .have e:=rO a b h;subst e;simp only[h,ne_eq,not_true_eq_false,if_false];exact zAK l l'
  .have h':¬mO b a=0:=fun e=>h (by rw[rO b a e];exact zCL a)
   simp only[h,h',ne_eq,not_false_eq_true,if_true];exact zPn a b
end
mutual
theorem zMq:∀(a b c:Val),mO a b<0->mO b c<0->mO a c<0
 | .mk k n l,.mk k' n' l',.mk k'' n'' l'',h1,h2=>by
  rw[fN]at *
  by_cases e1:dP (.mk k n l) (.mk k' n' l')=0
  .by_cases e2:dP (.mk k' n' l') (.mk k'' n'' l'')=0
   .have e3:dP (.mk k n l) (.mk k'' n'' l'')=0:=by rw[oA]at *;omega
    simp only[e1,e2,e3,ne_eq,not_true_eq_false,if_false,Val.kids]at *
    exact vE l l' l'' h1 h2
   .have e3:dP (.mk k n l) (.mk k'' n'' l'')<0:=by simp only[e2,ne_eq,not_false_eq_true,if_true]at h2;rw[oA]at e1;rw[zBV]at *;omega
    have e4:dP (.mk k n l) (.mk k'' n'' l'')≠0:=by omega
    simp only[e4,ne_eq,not_false_eq_true,if_true];exact e3
  .simp only[e1,ne_eq,not_false_eq_true,if_true]at h1;have e3:dP (.mk k n l) (.mk k'' n'' l'')<0:=by
    by_cases e2:dP (.mk k' n' l') (.mk k'' n'' l'')=0
    .rw[oA]at e2;rw[zBV]at *;omega
    .simp only[e2,ne_eq,not_false_eq_true,if_true]at h2;rw[zBV]at *;omega
   have e4:dP (.mk k n l) (.mk k'' n'' l'')≠0:=by omega
   simp only[e4,ne_eq,not_false_eq_true,if_true];exact e3
theorem vE:∀(a b c:wI),aL a b<0->aL b c<0->aL a c<0
 |[],[],_,h1,_=>by simp[aL]at h1
 |[],_::_,[],_,h2=>by simp[aL]at h2
 |[],_::_,_::_,_,_=>by simp[aL]
 |_::_,[],_,h1,_=>by simp[aL]at h1
 |_::_,_::_,[],_,h2=>by simp[aL]at h2
 |a::l,b::l',c::l'',h1,h2=>by
  simp only[aL]at *
  by_cases e1:mO a b=0
  .have e:=rO a b e1;subst e;by_cases e2:mO a c=0
   .simp only[zCL,e2,ne_eq,not_true_eq_false,if_false]at *
    exact vE l l' l'' h1 h2
   .simp only[e2,ne_eq,not_false_eq_true,if_true]at *
    exact h2
  .simp only[e1,ne_eq,not_false_eq_true,if_true]at h1;have e3:mO a c<0:=by
    by_cases e2:mO b c=0
    .rw[<-rO b c e2];exact h1
    .simp only[e2,ne_eq,not_false_eq_true,if_true]at h2;exact zMq a b c h1 h2
   have e4:mO a c≠0:=by omega
   simp only[e4,ne_eq,not_false_eq_true,if_true];exact e3
end
theorem zPY:Lin aL:=⟨zAJ,zAL,zAK,vE⟩
theorem zZv{α:Type}(f : α->Int){d : α->α->Int}(h:Lin d):Lin fun x y=>orI [aW (f x) (f y),d x y]:=by
 have:=zSE (c:=fun x y=>aW (f x) (f y)) (d:=d) (fun x=>yR.2 rfl) (fun x y=>by rw[mN,vD]) (fun x y z=>by simp only[mN];omega)
  (fun x y z e=>by have:=yR.1 e;simp[this]) h.refl (fun x y _=>h.eq x y) (fun x y _=>h.swap x y) (fun x y z _ _=>h.trans x y z)
 have e:(fun x y=>orI [aW (f x) (f y),d x y])=fun x y=>if aW (f x) (f y)=0 then d x y else aW (f x) (f y):=by funext x y;rw[zFZ,zJn]
 rw[e];exact this
end Go.Proofs.YtolkhapmieigcaaGreatDoor
namespace Go.Proofs.YtolkhapmieigcaaGreatDoor
open Go.Proofs Go.Abs
theorem zSP(c:Int)(hc:c=0\/c=1\/c=2)(w:World):Calls Tryz.prog 212 #[.int .u64 1,.int .u64 c] w fun e w'=>e=.returned (.tuple #[.int .u64 0,.int .u64 c])/\w'=w:=by
 rcases hc with rfl|rfl|rfl
 all_goals
  go_enter Tryz.func212,Tryz.ntmps212
  go_wp2
  go_ret2
  exact⟨by kernel_rfl,rfl⟩
theorem zMZ(c:Int)(hc:c=0\/c=1\/c=2)(w:World):Calls Tryz.prog 180 #[.int .u64 1,.int .u64 c] w fun e w'=>e=.returned (.tuple #[.int .u64 0,.int .u64 c])/\w'=w:=by
 have h:=zSP c hc;have hw:IntKind.u64.wrap c=c:=by rcases hc with rfl|rfl|rfl<;>rfl
 go_enter Tryz.func180,Tryz.ntmps180
 go_wp2_with (go_at_call 212;refine(h _).mono ?_;rintro e w' ⟨rfl,rfl⟩)
 go_ret2
 exact⟨rfl,rfl⟩
theorem u49:Tryz.prog.underlying 79=some (.slice 82):=by kernel_rfl
theorem zVP:(Tryz.prog.info? 82).map (·.size)=some 1:=by kernel_rfl
theorem i36:(Tryz.prog.info? 82).map (fun i=>(i.size,i.bytes,i.zero))=some (1,24,some (.slice none 0 0)):=by kernel_rfl
theorem zMX(c:Nat)(hc:c<=2)(w:World):(Instr.makeSlice 79 (.int .i64 c) (.int .i64 c)).run Tryz.prog w=.ok (.slice (some ⟨w.heap.size,0,none⟩) c c) (w.alloc (.cells (madeCells #[.slice none 0 0] c) 82)):=by obtain⟨i,hi,hh⟩:=jAf.1 i36;simp only[jBh]at hh;obtain⟨h1,h2,h3⟩:=hh;have:=run_make w 79 82 i (.slice none 0 0) u49 hi h3 .i64 .i64 c c (by omega) (by omega) (by rw[h2];omega) (by omega);rw[this,h1];simp[Value.cells]
theorem zQ6{P:Program}{ops:Array Oper}{o:Oper}{a:Act}{w w':World}{K:Act->World->Prop}{Q:Exit->Act->World->Prop}{E:Prop}
 (hg:o.guard=none)(d s:Operand)(t:TypeId)(hop:o.op=Op.call {callee:=Callee.builtin Builtin.copy,args:=#[d,s],argTypes:=#[t,t]})
 (vd vs:Value)(hd:a.eval d=vd)(hs:a.eval s=vs)(v:Value)(hrun:(Builtin.copy_ #[t,t] o.type #[vd,vs]).run P w=.ok v w')(hK:K (a.put o.dst v) w') :
 if Region.wanted o (yielded ops a.tmps)=true then Oper.wp P o a w K Q else E:=by
 have hw:Region.wanted o (yielded ops a.tmps)=true:=by simp[Region.wanted,hg]
 rw[if_pos hw];unfold Oper.wp;simp[execOp,hop,resolve,invoke,builtin,hs,hd,hrun,Result.andThen];exact hK
theorem zSL(z:Value)(n:Nat):madeCells #[z] n=Array.replicate n z:=Array.ext (by simp[madeCells]) (by intro i h1 h2;simp[madeCells,Nat.mod_one])
theorem zCC(w:World)(cur cur':Array Value):(w.alloc (.cells cur 82)).setRow w.heap.size cur'=w.alloc (.cells cur' 82):=by unfold World.setRow World.alloc;simp only[World.mk.injEq,and_true];apply Array.ext_getElem?;intro k;simp only[Array.getElem?_modify,Array.getElem?_push];split<;>split<;>simp_all
theorem zNm(b o cap:Nat)(v:Value)(w:World)(hv:w.cell? ⟨b,o,none⟩=some v) :
 Calls Tryz.prog 137 #[.slice (some ⟨b,o,none⟩) 1 cap,.int .i64 0] w fun e w'=>e=.returned (.slice (some ⟨w.heap.size,0,none⟩) 0 0)/\w'=w.alloc (.cells #[] 82):=by
 have h:=zMZ 0 (by simp);have hm:∀w:World,(Instr.makeSlice 79 (.int .i64 0) (.int .i64 0)).run Tryz.prog w=.ok (.slice (some ⟨w.heap.size,0,none⟩) 0 0) (w.alloc (.cells #[] 82)):=fun w=>(zMX 0 (by decide) w).trans (by rw[zSL];rfl)
 go_enter Tryz.func137,Tryz.ntmps137
 go_wp2_with (go_at_call 180;refine(h _).mono ?_;rintro e w' ⟨rfl,rfl⟩)
 have hcp:=run_copy_none (P:=Tryz.prog) (w'.alloc (.cells #[] 82)) 79 79 3 82 (some ⟨w'.heap.size,0,none⟩) (some ⟨b,o,none⟩) 0 0 1 cap u49 zVP (by rfl)
 go_wp2
 rw[hcp]
 go_wp2
 refine wp_loop_rounds 1 ?_;simp only[Code.rounds]
 go_wp2
 go_ret
 exact⟨rfl,rfl⟩
theorem zNn(b o cap:Nat)(v:Value)(w:World)(hv:w.cell? ⟨b,o,none⟩=some v)(h1:v.oneCell'=true)(hb:b<w.heap.size) :
 Calls Tryz.prog 137 #[.slice (some ⟨b,o,none⟩) 1 cap,.int .i64 1] w fun e w'=>e=.returned (.slice (some ⟨w.heap.size,0,none⟩) 1 1)/\w'=w.alloc (.cells #[v] 82):=by
 have h:=zMZ 1 (by simp);have hm:∀w:World,(Instr.makeSlice 79 (.int .i64 1) (.int .i64 1)).run Tryz.prog w=.ok (.slice (some ⟨w.heap.size,0,none⟩) 1 1) (w.alloc (.cells #[.slice none 0 0] 82)):=fun w=>(zMX 1 (by decide) w).trans (by rw[zSL];rfl)
 go_enter Tryz.func137,Tryz.ntmps137
 go_wp2_with (go_at_call 180;refine(h _).mono ?_;rintro e w' ⟨rfl,rfl⟩)
 have hcp:=run_copy_row (P:=Tryz.prog) (w'.alloc (.cells #[.slice none 0 0] 82)) 79 79 3 82 w'.heap.size 0 1 1 ⟨b,o,none⟩ 1 cap #[.slice none 0 0] 82 [v] u49 zVP (heap_alloc_new _ _) (by rfl)
  (by
   intro j u hj;cases j with
   |succ j=>simp at hj
   |zero =>
    simp at hj;subst hj;rw[<-hv];exact World.cell?_alloc_lt _ _ (a:=⟨b,o+0,none⟩) hb) (by simp) (by simpa using h1)
 rw[zCC]at hcp;simp only[List.take_zero,jBk,jAc,jB4,List.drop_succ_cons,jB1,List.drop_nil,jAt]at hcp
 go_wp2
 rw[hcp]
 go_wp2
 refine wp_loop_rounds 1 ?_;simp only[Code.rounds]
 go_wp2
 go_ret
 exact⟨rfl,rfl⟩
theorem zNo(b o cap:Nat)(v:Value)(w:World)(hv:w.cell? ⟨b,o,none⟩=some v)(h1:v.oneCell'=true)(hb:b<w.heap.size) :
 Calls Tryz.prog 137 #[.slice (some ⟨b,o,none⟩) 1 cap,.int .i64 2] w fun e w'=>e=.returned (.slice (some ⟨w.heap.size,0,none⟩) 2 2)/\w'=(w.alloc (.cells #[v,v] 82)).drew:=by
 have h:=zMZ 2 (by simp);have hm:∀w:World,(Instr.makeSlice 79 (.int .i64 2) (.int .i64 2)).run Tryz.prog w=.ok (.slice (some ⟨w.heap.size,0,none⟩) 2 2) (w.alloc (.cells #[.slice none 0 0,.slice none 0 0] 82)):=fun w=>(zMX 2 (by decide) w).trans (by rw[zSL];rfl)
 go_enter Tryz.func137,Tryz.ntmps137
 go_wp2_with (go_at_call 180;refine(h _).mono ?_;rintro e w' ⟨rfl,rfl⟩)
 have hcp:=run_copy_row (P:=Tryz.prog) (w'.alloc (.cells #[.slice none 0 0,.slice none 0 0] 82)) 79 79 3 82 w'.heap.size 0 2 2 ⟨b,o,none⟩ 1 cap #[.slice none 0 0,.slice none 0 0] 82 [v] u49 zVP (heap_alloc_new _ _) (by rfl)
  (by
   intro j u hj;cases j with
   |succ j=>simp at hj
   |zero =>
    simp at hj;subst hj;rw[<-hv];exact World.cell?_alloc_lt _ _ (a:=⟨b,o+0,none⟩) hb) (by simp) (by simpa using h1)
 rw[zCC]at hcp;simp only[List.take_zero,jBk,jAc,jB4,List.drop_succ_cons,List.drop_zero,jB1,jBe]at hcp
 go_wp2
 rw[hcp]
 go_wp2
 refine wp_loop_rounds 2 ?_;simp only[Code.rounds]
 go_wp2
 have hcp2:=run_copy_row (P:=Tryz.prog) (w'.alloc (.cells #[v,.slice none 0 0] 82)).drew 79 79 3 82 w'.heap.size 1 1 1 ⟨w'.heap.size,0,none⟩ 1 2 #[v,.slice none 0 0] 82 [v] u49 zVP (heap_alloc_new _ _) (by rfl)
  (by
   intro j u hj;cases j with
   |succ j=>simp at hj
   |zero =>
    simp at hj;subst hj;exact World.cell?_alloc_new _ _ 82 0) (by simp) (by simpa using h1)
 have e:(w'.alloc (.cells #[v,.slice none 0 0] 82)).drew.setRow w'.heap.size (List.take 1 #[v,.slice none 0 0].toList++[v]++List.drop (1+[v].length) #[v,.slice none 0 0].toList).toArray=(w'.alloc (.cells #[v,v] 82)).drew:=by show ((w'.alloc (.cells #[v,.slice none 0 0] 82)).setRow w'.heap.size _).drew=_;rw[zCC];rfl
 rw[e]at hcp2
 go_region_law (refine zQ6 rfl (.tmp 41) (.tmp 44) 79 rfl _ _ rfl rfl _ hcp2 ?_)
 go_wp2
 go_ret
 exact⟨rfl,rfl⟩
theorem zCl{H:Mem}{L:wO} {U:St}{w:World}(hs:RelSt H L U w):Nxt H L w H L U w.drew :=
 ⟨hs.heap_eq rfl,⟨rfl,rfl,rfl,jA _,fun _ _ _=>rfl,HLe.refl _,fun _ _ _ h=>.inl h,jCf _,fun _ _ h=>h⟩,LLe.refl _,fun _ h=>.inl h⟩
theorem xA{H:Mem}{L:wO}{c:A}{v:Value}(h:Rel H L c v):∀n,qE H L (List.replicate n c) (List.replicate n v)
 | 0=>jR
 |n+1=>qN h (xA h n)
theorem zQt(n:Nat)(hn:n<=2)(c:A):my 137 [.sl 1 [c],int n] [] (.sl n (List.replicate n c)) []:=by
 intro H L w vs hs hvs;obtain⟨x,t,rfl,hx,ht⟩:=z8 hvs;obtain⟨y,t,rfl,hy,ht⟩:=z8 ht;obtain rfl:=jL ht;simp only[int,Rel]at hx hy;subst hy;obtain⟨a,cap,rfl,h1,h2,h3⟩:=hx;rcases h3 with h3|⟨b,o,us,rfl,hc,ho,hat⟩
 .omega
 obtain⟨v,t,rfl,hv,ht⟩:=z8 hc;obtain rfl:=jL ht;have hp:=hs.pers b o v (by simpa using hat 0 v rfl);have h1v:v.oneCell'=true:=ho v (by simp);have hb:=World.block_lt_of_cell? w _ hp;have key:Calls Tryz.prog 137 #[.slice (some ⟨b,o,none⟩) 1 cap,.int .i64 n] w fun e w'=>e=.returned (.slice (some ⟨w.heap.size,0,none⟩) n n) /\
  (w'=w.alloc (.cells (List.replicate n v).toArray 82)\/w'=(w.alloc (.cells (List.replicate n v).toArray 82)).drew):=by
  have h:n=0\/n=1\/n=2:=by omega
  rcases h with rfl|rfl|rfl
  .exact(zNm b o cap v w hp).mono fun e w' h=>⟨h.1,.inl h.2⟩
  .exact(zNn b o cap v w hp h1v hb).mono fun e w' h=>⟨h.1,.inl h.2⟩
  .exact(zNo b o cap v w hp h1v hb).mono fun e w' h=>⟨h.1,.inr h.2⟩
 refine key.mono fun e w' h=>?_
 obtain⟨rfl,hw⟩:=h;obtain⟨hn1,hn2⟩:=zEi hs (List.replicate n v) 82;refine⟨.ret (.sl n (List.replicate n c)),[],zGW H w.heap.size (List.replicate n v),L,⟨_,rfl,?_⟩,?_,rfl,rfl⟩
 .simp only[Rel];refine⟨_,n,rfl,jA _,by simp[maxLen];omega,.inr ⟨w.heap.size,0,List.replicate n v,rfl,?_,fun u hu=>?_,hn2⟩⟩
  .have hv':=Rel.mono hn1.step.hle (LLe.refl _) _ hv;exact xA hv' n
  .rw[(jDh.1 hu).2];exact h1v
 .rcases hw with rfl|rfl
  .exact hn1
  .exact hn1.trans (zCl hn1.st)
end Go.Proofs.YtolkhapmieigcaaGreatDoor
namespace Go.Proofs.YtolkhapmieigcaaGreatDoor
open Go.Abs
def woP(p:Prg)(t:Id):Prg:=⟨p.mods,p.defs.filter fun d=>decide (d.id≠t)⟩
variable{p:Prg}
theorem zLM{t r:Id}(h:r≠t):qG (woP p t).defs r=qG p.defs r:=by
 show List.find? _ (p.defs.filter _)=List.find? _ p.defs;rw[List.find?_filter]
 congr 1
 funext d;by_cases hd:d.id=r
 .simp[hd,h]
 .simp[hd]
theorem xO(p:Prg)(t:Id):qG (woP p t).defs t=none:=by
 show List.find? _ (p.defs.filter _)=none;rw[jD3];intro d hd;have:=(List.mem_filter.1 hd).2
 simpa using this
theorem TyOk.sub{hs hs':wQ}(hn:hs'.Pairwise fun a b=>a.id≠b.id)(hm:∀h∈hs,h.kind=0\/h.kind=1->h∈hs'){r:Nat}{t:Typ}(h:TyOk hs r t):TyOk hs' r t:=by
 induction h with
 |int r=>exact .int _
 |bool r=>exact .bool _
 |list r t h ih=>exact .list _ _ ih
 |dfn r k h h1 h2 h3 h4 ih =>
  obtain⟨k',hk',e⟩:=jAe (hm hs[k] (jA0 h) (h2.imp id And.left));rw[<-e]at h2 h3 ih ⊢;refine .dfn r k' hk' (fun j hj=>?_) h2 h3 ih;exact jC0.1 hn j k' (by omega) hk' hj
variable{q:Prg}{env:wJ}{e:Exp}{u:Typ}
theorem WE.sub(h:∀(r:Id)(d:Dfn),qG p.defs r=some d->d.kind=0\/d.kind=1\/d.kind=2->qG q.defs r=some d)(he:WE p env e u):WE q env e u:=by
 induction he with
 |int env i n r u ns h1 h2=>exact .int _ _ _ _ _ _ h1 h2
 |bool env i n r u ns h=>exact .bool _ _ _ _ _ _ h
 |var env i n r u ns t h=>exact .var _ _ _ _ _ _ _ h
 |call env i n r u ks ns hn d hd hk hl hw ih=>exact .call _ _ _ _ _ _ _ hn d (h r d hd (.inr (.inr hk))) hk hl ih
 |op env i n r u ks ns hn ts t ho hl hw ih=>exact .op _ _ _ _ _ _ _ hn ts t ho hl ih
 |ite env i n r u a b c ns t ha hb hc iha ihb ihc=>exact .ite _ _ _ _ _ _ _ _ _ _ iha ihb ihc
 |lets env i n r u a b ns v t hf ha hb iha ihb=>exact .lets _ _ _ _ _ _ _ _ _ _ hf iha ihb
 |record env i n r u ks ns hn d hd hk hl hw ih=>exact .record _ _ _ _ _ _ _ hn d (h r d hd (.inl hk)) hk hl ih
 |field env i r u a ns d j hd hk hj ha ih=>exact .field _ _ _ _ _ _ d j (h r d hd (.inl hk)) hk hj ih
 |case env i r u a ns d j hd hk hj ha ih=>exact .case _ _ _ _ _ _ d j (h r d hd (.inr (.inl hk))) hk hj ih
 |mtch env i n r u a ks ns d t hf hd hk hl ha hw iha ih=>exact .mtch _ _ _ _ _ _ _ _ d t hf (h r d hd (.inr (.inl hk))) hk hl iha ih
 |list env i n r u ks ns t hn hw ih=>exact .list _ _ _ _ _ _ _ _ hn ih
 |fold env i n r u l s b ns v t hf hl hs hb ihl ihs ihb=>exact .fold _ _ _ _ _ _ _ _ _ _ _ hf ihl ihs ihb
theorem zVU{hs:wQ}(hf:Fit p hs){t:Id}(ht:∀d∈p.defs,d.id=t->d.kind=4):Fit (woP p t) ((woP p t).defs.map Dfn.hd):=by
 have hnd:(woP p t).defs.Pairwise fun a b=>a.id≠b.id:=hf.nd.filter _
 have hsub:∀d∈(woP p t).defs,d∈p.defs:=fun d hd=>(List.mem_filter.1 hd).1
 have hT:∀{r:Nat} {u:Typ},TyOk hs r u->TyOk ((woP p t).defs.map Dfn.hd) r u:=fun hu=>by
  refine hu.sub (jC.2 (hnd.imp fun h=>h)) fun h hh hk=>?_
  rw[<-hf.heads]at hh;obtain⟨d,hd,rfl⟩:=jA9.1 hh;refine List.mem_map_of_mem (List.mem_filter.2 ⟨hd,?_⟩);have hk':d.kind=0\/d.kind=1:=hk;by_cases e:d.id=t
  .have:=ht d hd e;omega
  .simpa using e
 refine⟨rfl,jAz (jBp _ _) hf.len8,hnd,fun d hd=>?_,fun d hd=>hf.kinds d (hsub d hd),fun r d hd hb=>?_⟩
 .obtain⟨s1,s2,s3,s4,s5⟩:=hf.slots d (hsub d hd);exact⟨s1,s2,s3,s4,fun s hs=>hT (s5 s hs)⟩
 .have hr:r≠t:=fun e=>by rw[e,xO]at hd;cases hd
  rw[zLM hr]at hd;refine(hf.bods r d hd hb).sub fun r' d' hd' hk'=>?_
  have hr':r'≠t:=fun e=>by have h1:=(yD hd');have:=ht d' h1.1 (h1.2.trans e);omega
  rw[zLM hr'];exact hd'
section
variable{p:Prg}{F:Int}{c:Nat}{m:Int}{ev:Evl}{e:Exp}{V:wP}{s:XS}
end
structure TwD(Q:Exp->Exp->Prop)(d d':Dfn):Prop where
 eq:d'=d.wb d'.body
 q:Q d.body d'.body
 no:dU d.kind=false->d'.body=d.body
variable{Q:Exp->Exp->Prop}
theorem TwD.s0{d d':Dfn}(h:TwD Q d d'):SameD0 d d':=by
 have al:∀l:List Slt,Al SameS l l:=fun l=>by
  induction l with
  |nil=>exact .nil
  |cons x l ih=>exact .cons ⟨rfl,rfl,rfl⟩ ih
 rw[h.eq];exact⟨rfl,rfl,al _,rfl⟩
theorem Al.refl{α:Type}{R : α->α->Prop}(h:∀a,R a a):∀l:List α,Al R l l
 |[]=>.nil
 |a::l=>.cons (h a) (Al.refl h l)
theorem Al.set{α:Type}{R : α->α->Prop}{l m:List α}(h:Al R l m):∀(i:Nat) (b : α),(∀a b0,l[i]?=some a->m[i]?=some b0->R a b0->R a b)->Al R l (m.set i b):=by
 induction h with
 |nil=>intro i b _;exact .nil
 | @cons a c l m h t ih =>
  intro i b hb;cases i with
  |zero=>exact .cons (hb a c rfl rfl h) t
  |succ i=>exact .cons h (ih i b fun a' b0 h1 h2=>hb a' b0 (by simpa using h1) (by simpa using h2))
theorem zQA(hs:∀e e' a x,0<=x->Q e e'->Q e (aC e' a x).1)(l:wC)(hl:∀x∈l,w64 x=x){ds es:wS}(h:Al (TwD Q) ds es)(i:Nat):Al (TwD Q) ds (uD l es i):=by
 unfold uD;split
 .rename_i d hd;split
  .rename_i hk;refine h.set _ _ fun a b0 h1 h2 hR=>?_
   rw[hd]at h2;cases h2;refine⟨?_,hs _ _ _ _ (yZ hl (by omega)).1 hR.q,fun hn=>?_⟩
   .rw[hR.eq];rfl
   .rw[hR.eq]at hk;rw[show (a.wb d.body).kind=a.kind from rfl,hn]at hk;cases hk
  .exact h
 .exact h
theorem zLE{Q:Exp->Exp->Prop}(hr:∀e,Q e e)(hs:∀e e' a x,0<=x->Q e e'->Q e (aC e' a x).1)(l:wC)(hl:∀x∈l,w64 x=x)(ds:wS):∀i:Nat,Al (TwD Q) ds (eJ l ds i)
 | 0=>Al.refl (fun d=>⟨rfl,hr _,fun _=>rfl⟩) ds
 |i+1=>zQA hs l hl (zLE hr hs l hl ds i) i
def Ids(e e':Exp):Prop:=e'.id=e.id/\((y7 e').map Exp.id).Perm ((y7 e).map Exp.id)
theorem Ids.rfl'(e:Exp):Ids e e:=⟨rfl,.refl _⟩
theorem Ids.trans{a b c:Exp}(h:Ids a b)(k:Ids b c):Ids a c:=⟨k.1.trans h.1,k.2.trans h.2⟩
theorem zE9(e:Exp)(n:Int):Ids e (twN e n):=⟨rfl,by rw[gZ,gZ];exact .refl _⟩
theorem zS4(e:Exp)(x:Int):Ids e (y4 e x):=by
 unfold y4;split
 .exact zE9 _ _
 split
 .exact zE9 _ _
 split
 .split
  .exact zE9 _ _
  .split
   .exact zE9 _ _
   .exact .rfl' _
 split
 .split
  .rename_i a b c hk;refine⟨rfl,?_⟩;rw[gZ,gZ,hk];show (e.id::(yU [a,c,b]).map Exp.id).Perm (e.id::(yU [a,b,c]).map Exp.id);refine .cons _ ?_;simp only[yU,jAt,jBa];exact .append_left _ jDm
  .exact .rfl' _
 .exact .rfl' _
mutual
theorem zHG:∀(e:Exp) (a x:Int),Ids e (aC e a x).1
 | .mk i k n r t ks ns,a,x=>by
  simp only[aC];split
  .exact zS4 _ _
  .refine⟨rfl,?_⟩;simp only[y7,jAd];exact .cons _ (zBb ks (a-1) x)
theorem zBb:∀(l:wH) (a x:Int),((yU (qZ l a x).1).map Exp.id).Perm ((yU l).map Exp.id)
 |[],a,x=>.refl _
 |e::l,a,x=>by
  simp only[qZ];split
  .simp only[yU,jBa];exact .append (zHG e a x).2 (zBb l _ x)
  .simp only[yU,jBa];exact .append (.refl _) (zBb l a x)
end
theorem qHN(key:∀r d,qG p.defs r=some d->∃d',qG q.defs r=some d'/\d'=d.wb d'.body)(h:WE p env e u):WE q env e u:=by
 induction h with
 |int env i n r u ns h1 h2=>exact .int _ _ _ _ _ _ h1 h2
 |bool env i n r u ns h=>exact .bool _ _ _ _ _ _ h
 |var env i n r u ns t h=>exact .var _ _ _ _ _ _ _ h
 |call env i n r u ks ns hn d hd hk hl hw ih =>
  obtain⟨d',hd',e⟩:=key r d hd;have hs:d'.slots=d.slots:=by rw[e];rfl
  have hr:d'.res=d.res:=by rw[e];rfl
  have hkk:d'.kind=2:=by rw[e];exact hk
  rw[<-hr];exact .call _ _ _ _ _ _ _ hn d' hd' hkk (by rw[hs];exact hl) fun j hj=>by simpa only[hs]using ih j hj
 |op env i n r u ks ns hn ts t ho hl hw ih=>exact .op _ _ _ _ _ _ _ hn ts t ho hl ih
 |ite env i n r u a b c ns t ha hb hc i1 i2 i3=>exact .ite _ _ _ _ _ _ _ _ _ _ i1 i2 i3
 |lets env i n r u a b ns v t hf ha hb i1 i2=>exact .lets _ _ _ _ _ _ _ _ _ _ hf i1 i2
 |record env i n r u ks ns hn d hd hk hl hw ih =>
  obtain⟨d',hd',e⟩:=key r d hd;have hs:d'.slots=d.slots:=by rw[e];rfl
  have hkk:d'.kind=0:=by rw[e];exact hk
  exact .record _ _ _ _ _ _ _ hn d' hd' hkk (by rw[hs];exact hl) fun j hj=>by simpa only[hs]using ih j hj
 |field env i r u a ns d j hd hk hj ha ih =>
  obtain⟨d',hd',e⟩:=key r d hd;have hs:d'.slots=d.slots:=by rw[e];rfl
  have hkk:d'.kind=0:=by rw[e];exact hk
  have:=WE.field env i r u a ns d' j hd' hkk (by rw[hs];exact hj) ih
  simpa only[hs]using this
 |case env i r u a ns d j hd hk hj ha ih =>
  obtain⟨d',hd',e⟩:=key r d hd;have hs:d'.slots=d.slots:=by rw[e];rfl
  have hkk:d'.kind=1:=by rw[e];exact hk
  exact .case _ _ _ _ _ _ d' j hd' hkk (by rw[hs];exact hj) (by simpa only[hs]using ih)
 |mtch env i n r u a ks ns d t hf hd hk hl ha hw i1 ih =>
  obtain⟨d',hd',e⟩:=key r d hd;have hs:d'.slots=d.slots:=by rw[e];rfl
  have hkk:d'.kind=1:=by rw[e];exact hk
  exact .mtch _ _ _ _ _ _ _ _ d' _ hf hd' hkk (by rw[hs];exact hl) i1 fun j hj=>by simpa only[hs]using ih j hj
 |list env i n r u ks ns t hn hw ih=>exact .list _ _ _ _ _ _ _ _ hn ih
 |fold env i n r u l s b ns v t hf hl hs hb i1 i2 i3=>exact .fold _ _ _ _ _ _ _ _ _ _ _ hf i1 i2 i3
def Tk(x:Int)(e e':Exp):Prop:=e'=e\/∃b,e'=(aC e b x).1
theorem cW(x:Int):∀(l:wH) (a:Int),Al (Tk x) l (qZ l a x).1
 |[],a=>.nil
 |e::l,a=>by
  simp only[qZ];split
  .exact .cons (.inr ⟨a,rfl⟩) (cW x l _)
  .exact .cons (.inl rfl) (cW x l _)
variable{x:Int}
theorem nA{e':Exp}{t:Typ}(h:WE q env e t)(ih:∀a,WE q env (aC e a x).1 t)(hk:Tk x e e'):WE q env e' t:=by
 rcases hk with rfl|⟨b,rfl⟩
 .exact h
 .exact ih b
theorem zG4{m:Int}(hx:0<=x)(hm:0<m):0<=x.tmod m/\x.tmod m<m:=⟨jDo m hx,Int.tmod_lt_of_pos x hm⟩
theorem qHE(hx:0<=x)(h:WE q env e u):∀a,WE q env (aC e a x).1 u:=by
 induction h with
 |int env i n r u ns h1 h2 =>
  intro a;have hm:=zG4 hx (m:=9) (by omega);have hw:=qF (x.tmod 9-4) (by omega);rw[bA];split
  .rw[show y4 (.mk i 0 n r u [] ns) x=.mk i 0 (x.tmod 9-4) r u [] ns by simp[y4,twN,hw]];exact .int _ _ _ _ _ _ (by omega) (by omega)
  .exact .int _ _ _ _ _ _ h1 h2
 |bool env i n r u ns h =>
  intro a;have hw:=qF (1-n) (by omega);rw[bA];split
  .rw[show y4 (.mk i 1 n r u [] ns) x=.mk i 1 (1-n) r u [] ns by simp[y4,twN,hw]];exact .bool _ _ _ _ _ _ (by omega)
  .exact .bool _ _ _ _ _ _ h
 |var env i n r u ns t h =>
  intro a;rw[bA];split
  .exact .var _ _ _ _ _ _ _ h
  .exact .var _ _ _ _ _ _ _ h
 |call env i n r u ks ns hn d hd hk hl hw ih =>
  intro a;have hA:=cW x ks (a-1);rw[bA];split
  .exact .call _ _ _ _ _ _ _ hn d hd hk hl hw
  .exact .call _ _ _ _ _ _ _ (by show (qZ ks (a-1) x).1.length<=_;rw[hA.len];exact hn) d hd hk (by show (qZ ks (a-1) x).1.length=_;rw[hA.len];exact hl) fun j hj =>
    nA (hw j (by rw[<-hA.len];exact hj)) (ih j (by rw[<-hA.len];exact hj)) (hA.get j _ hj)
 |op env i n r u ks ns hn ts t ho hl hw ih =>
  intro a;have hA:=cW x ks (a-1);rw[bA];split
  .have hm:=zG4 hx (m:=5) (by omega);have hop:∀n',OpT n' ts t->WE q env (.mk i 4 n' r u ks ns) t:=fun n' ho'=>.op _ _ _ _ _ _ _ hn ts t ho' hl hw
   cases ho with
   |arith n h1 h2 =>
    rw[show y4 (.mk i 4 n r u ks ns) x=.mk i 4 (x.tmod 5) r u ks ns by simp[y4,twN,h2]];exact hop _ (.arith _ (by omega) (by omega))
   |less=>exact hop _ .less
   |same u'=>exact hop _ (.same u')
   |andor n h =>
    have hw15:=qF (15-n) (by omega);have h4:¬n<=4:=by omega
    rw[show y4 (.mk i 4 n r u ks ns) x=.mk i 4 (15-n) r u ks ns by simp[y4,twN,h4,h,hw15]];exact hop _ (.andor _ (by omega))
   |not=>exact hop _ .not
   |join t'=>exact hop _ (.join t')
   |len t'=>exact hop _ (.len t')
  .exact .op _ _ _ _ _ _ _ (by show (qZ ks (a-1) x).1.length<=_;rw[hA.len];exact hn) ts t ho (by show (qZ ks (a-1) x).1.length=_;rw[hA.len];exact hl) fun j hj =>
    nA (hw j (by rw[<-hA.len];exact hj)) (ih j (by rw[<-hA.len];exact hj)) (hA.get j _ hj)
 |ite env i n r u a b c ns t ha hb hc i1 i2 i3 =>
  intro m;rw[bA];split
  .exact .ite _ _ _ _ _ _ _ _ _ _ ha hc hb
  .have hA:=cW x [a,b,c] (m-1);show WE q env (.mk i 5 n r u (qZ [a,b,c] (m-1) x).1 ns) t;generalize (qZ [a,b,c] (m-1) x).1=L at hA;cases hA with|cons k1 hA=>cases hA with|cons k2 hA=>cases hA with|cons k3 hA =>
   cases hA;exact .ite _ _ _ _ _ _ _ _ _ _ (nA ha i1 k1) (nA hb i2 k2) (nA hc i3 k3)
 |lets env i n r u a b ns v t hf ha hb i1 i2 =>
  intro m;rw[bA];split
  .exact .lets _ _ _ _ _ _ _ _ _ _ hf ha hb
  .have hA:=cW x [a,b] (m-1);show WE q env (.mk i 6 n r u (qZ [a,b] (m-1) x).1 ns) t;generalize (qZ [a,b] (m-1) x).1=L at hA;cases hA with|cons k1 hA=>cases hA with|cons k2 hA =>
   cases hA;exact .lets _ _ _ _ _ _ _ _ _ _ hf (nA ha i1 k1) (nA hb i2 k2)
 |record env i n r u ks ns hn d hd hk hl hw ih =>
  intro a;have hA:=cW x ks (a-1);rw[bA];split
  .exact .record _ _ _ _ _ _ _ hn d hd hk hl hw
  .exact .record _ _ _ _ _ _ _ (by show (qZ ks (a-1) x).1.length<=_;rw[hA.len];exact hn) d hd hk (by show (qZ ks (a-1) x).1.length=_;rw[hA.len];exact hl) fun j hj =>
    nA (hw j (by rw[<-hA.len];exact hj)) (ih j (by rw[<-hA.len];exact hj)) (hA.get j _ hj)
 |field env i r u a ns d j hd hk hj ha ih =>
  intro m;rw[bA];split
  .exact .field _ _ _ _ _ _ d j hd hk hj ha
  .have hA:=cW x [a] (m-1);show WE q env (.mk i 8 j r u (qZ [a] (m-1) x).1 ns) _;generalize (qZ [a] (m-1) x).1=L at hA;cases hA with|cons k1 hA =>
   cases hA;exact .field _ _ _ _ _ _ d j hd hk hj (nA ha ih k1)
 |case env i r u a ns d j hd hk hj ha ih =>
  intro m;rw[bA];split
  .exact .case _ _ _ _ _ _ d j hd hk hj ha
  .have hA:=cW x [a] (m-1);show WE q env (.mk i 9 j r u (qZ [a] (m-1) x).1 ns) _;generalize (qZ [a] (m-1) x).1=L at hA;cases hA with|cons k1 hA =>
   cases hA;exact .case _ _ _ _ _ _ d j hd hk hj (nA ha ih k1)
 |mtch env i n r u a ks ns d t hf hd hk hl ha hw i1 ih =>
  intro m;rw[bA];split
  .exact .mtch _ _ _ _ _ _ _ _ d _ hf hd hk hl ha hw
  .have hA:=cW x (a::ks) (m-1);show WE q env (.mk i 10 n r u (qZ (a::ks) (m-1) x).1 ns) _;generalize (qZ (a::ks) (m-1) x).1=L at hA;cases hA with | @cons _ a' _ ks' k1 hA =>
   exact .mtch _ _ _ _ _ _ _ _ d _ hf hd hk (by rw[hA.len];exact hl) (nA ha i1 k1) fun j hj=>nA (hw j (by rw[<-hA.len];exact hj)) (ih j (by rw[<-hA.len];exact hj)) (hA.get j _ hj)
 |list env i n r u ks ns t hn hw ih =>
  intro a;have hA:=cW x ks (a-1);rw[bA];split
  .exact .list _ _ _ _ _ _ _ _ hn hw
  .exact .list _ _ _ _ _ _ _ _ (by show (qZ ks (a-1) x).1.length<=_;rw[hA.len];exact hn) fun j hj=>nA (hw j (by rw[<-hA.len];exact hj)) (ih j (by rw[<-hA.len];exact hj)) (hA.get j _ hj)
 |fold env i n r u l s b ns v t hf hl hs hb i1 i2 i3 =>
  intro m;rw[bA];split
  .exact .fold _ _ _ _ _ _ _ _ _ _ _ hf hl hs hb
  .have hA:=cW x [l,s,b] (m-1);show WE q env (.mk i 12 n r u (qZ [l,s,b] (m-1) x).1 ns) t;generalize (qZ [l,s,b] (m-1) x).1=L at hA;cases hA with|cons k1 hA=>cases hA with|cons k2 hA=>cases hA with|cons k3 hA =>
   cases hA;exact .fold _ _ _ _ _ _ _ _ _ _ _ hf (nA hl i1 k1) (nA hs i2 k2) (nA hb i3 k3)
end Go.Proofs.YtolkhapmieigcaaGreatDoor
namespace Go.Proofs.YtolkhapmieigcaaGreatDoor
open Go Go.Abs
theorem zPu(pv ps pe:Value)(w:World) :
 CallsDIn Fence.wide 0 Tryz.prog 148 #[pv,ps,pe] .returning w fun e u' w'=>e=.returned (.tuple #[])/\u'=.returning/\w'=w:=by
 refine callsDIn_of_wpSIn Tryz.func148 rfl trivial fun c₀ cs hu=>?_
 apply wpSIn_seq;apply wpSIn_region;simp[wpOpsSIn,go_sem,recoverD,hu,Tryz.ntmps148,Exit.thenS];apply wpSIn_seq;apply wpSIn_region;simp[wpOpsSIn,go_sem,Exit.thenS];refine wpSIn_cond (t:=false) (by simp[Act.eval,Array.replicate]) ?_;simp only[jAg,if_false];refine wpSIn_of_wpIn rfl (wpIn_skip ?_);cases c₀;simp_all [bodyPostS,results,Tryz.results148]
theorem zVJ(k:Int)(w:World):(Instr.typeAssert (zKi k) 20 46 true).run Tryz.prog w=.ok (.tuple #[.int .i64 k,.bool true]) w:=by
 have hu:Tryz.prog.underlying 46=some (.int .i64):=by kernel_rfl
 simp[Instr.typeAssert,run_underlying hu]
def qCO:List KG:=[⟨none,.build (some 17) [(.int .i64 0),(.int .i64 0),(.slice none 0 0)] []⟩,⟨none,.mov (some 18) (.tmp 4)⟩,⟨none,.st none (.tmp 0) (.tmp 17) 3⟩,⟨none,.st none (.tmp 1) (.const (.int .i64 0)) 1⟩,⟨none,.st none (.tmp 2) (.tmp 18) 1⟩]
theorem zKf{H:Mem}{L:wO} {U:St}{w:World}{vs:wM}{q0 q1 q2:Nat}{k:Int}{older:List PanicEntry}(hs:RelSt H L U w)(hv:qE H L [.ptr q0 0,.ptr q1 0,.ptr q2 0] vs)
 {x0 y0 z0 x1 x2:A}(b0 : U[q0]?=some (.box [x0,y0,z0]))(b1 : U[q1]?=some (.box [x1]))(b2 : U[q2]?=some (.box [x2]))(n1:q0≠q1)(n2:q0≠q2)(n3:q1≠q2) :
 CallsDIn Fence.wide 0 Tryz.prog 148 vs.toArray (.panicking ({v:=zKi k,recovered:=false}::older)) w fun e u' w'=>e=.returned (.tuple #[])/\u'=.panicking ({v:=zKi k,recovered:=true}::older) /\
  ∃H' L',Nxt H L w H' L' (((U.set q0 (.box [int 0,int 0,.nil])).set q1 (.box [int 0])).set q2 (.box [int k])) w':=by
 obtain⟨pv,vs',rfl,h0,hv⟩:=z8 hv;obtain⟨ps,vs',rfl,h1,hv⟩:=z8 hv;obtain⟨pe,vs',rfl,h2,hv⟩:=z8 hv;rw[jL hv];refine callsDIn_of_wpSIn Tryz.func148 rfl trivial fun c₀ cs hu=>?_
 apply wpSIn_seq;apply wpSIn_region;simp[wpOpsSIn,go_sem,recoverD,hu,Tryz.ntmps148,Exit.thenS];apply wpSIn_seq;apply wpSIn_region;simp[wpOpsSIn,go_sem,Exit.thenS];refine wpSIn_cond (t:=true) (by simp[Act.eval,Array.replicate]) ?_;simp only[if_true];apply wpSIn_seq;apply wpSIn_region;simp[wpOpsSIn,go_sem,Exit.thenS,zVJ];apply wpSIn_seq;apply wpSIn_seq;apply wpSIn_region;simp[wpOpsSIn,go_sem,Exit.thenS];refine wpSIn_cond (t:=false) (by simp[Act.eval,Array.replicate]) ?_;simp only[jAg,if_false];refine wpSIn_of_wpIn rfl (wpIn_skip ?_);simp only[Exit.thenS];refine wpSIn_of_wpIn rfl ?_;refine zGh (n0:=L.length) (hint:=z7) (l:=qCO) (by kernel_rfl) (Q:=fun x env τ=>x=.norm/\τ = ((U.set q0 (.box [int 0,int 0,.nil])).set q1 (.box [int 0])).set q2 (.box [int k])) (N:=19) (env:=jO [(0,.ptr q0 0),(1,.ptr q1 0),(2,.ptr q2 0),(4,int k)]) ?_ hs ?_ fun e a' w' hp=>?_
 .refine⟨by simp,fun t=>?_⟩;rcases oB [(0,.ptr q0 0),(1,.ptr q1 0),(2,.ptr q2 0),(4,int k)] t with h|h
  .rw[h];simp[Rel]
  .generalize jO [(0,.ptr q0 0),(1,.ptr q1 0),(2,.ptr q2 0),(4,int k)] t=a at h;simp only[jA1,jBh,jAr,or_false]at h;rcases h with ⟨rfl,rfl⟩|⟨rfl,rfl⟩|⟨rfl,rfl⟩|⟨rfl,rfl⟩
   .simpa using h0
   .simpa using h1
   .simpa using h2
   .simp[Rel,Array.getElem?_append]
 .unfold qCO;simp[b0,b1,b2,n1,n2,n3,jDp]
 .obtain⟨x,env',τ,H',L',rfl,g2,g3,g4,rfl,rfl⟩:=hp;refine⟨g2,_,rfl,.tuple #[],?_,rfl,rfl,H'.1,H'.2,L',g4⟩;simp[results,Tryz.results148]
end Go.Proofs.YtolkhapmieigcaaGreatDoor
namespace Go.Proofs.YtolkhapmieigcaaGreatDoor
open Go.Abs
@[simp]theorem qMY:zA Tryz.prog 225=true:=by kernel_rfl
def rH(a b:wI):Int:=orI [aW (xH 0 a) (xH 0 b),aL a b]
theorem tM:Lin rH:=zZv (fun l=>xH 0 l) zPY
structure Sz where
 a:Int
 b:Int
 e:Int
def nU:Int->Int->List Sz->Sz
 |a,b,[]=>⟨a,b,0⟩
 |a,b,k::l=>if a*k.a > 4096 then ⟨0,0,4⟩ else nU (a*k.a) (b+k.b) l
def gM:Int->Int->List Sz->Sz
 |a,b,[]=>⟨a,b,0⟩
 |a,b,k::l=>gM (a+k.a) (max b (1+k.b)) l
def rQ:List Sz->Int
 |[]=>0
 |k::l=>if k.e≠0 then k.e else rQ l
def aP(rec:Bool)(l:List Sz):Sz:=if rQ l≠0 then ⟨0,0,rQ l⟩ else if rec then nU 1 1 l else gM 0 1 l
def dK(m:Int)(k:Sz):Sz:=if k.e≠0 then ⟨0,0,k.e⟩ else if m<=0 then ⟨1,1,0⟩ else if m<=1 then ⟨1+k.a,1+k.b,0⟩ else ⟨1+k.a+k.a*k.a,1+k.b+k.b,0⟩
def gN(k:Sz):Sz:=if k.e≠0 then ⟨0,0,k.e⟩ else if k.a > 4096\/k.b > 256 then ⟨0,0,4⟩ else ⟨k.a,if k.a=0 then 0 else k.b,0⟩
def jH(p:Prg)(m:Int):Nat->Typ->Sz
 | 0,t=>if cI p t=false then ⟨0,0,1⟩ else ⟨0,0,4⟩
 |n+1,t=>if cI p t=false then ⟨0,0,1⟩ else if t.k=0 then ⟨2*m+1,1,0⟩ else if t.k=1 then ⟨2,1,0⟩ else
  if t.k=2 then gN (dK m (jH p m n (t.kids.headD Typ.zero)))else gN (aP (decide ((dfn p t.id).kind=0)) ((dfn p t.id).slots.map fun s=>jH p m n s.typ))
def Sz.Ok(k:Sz):Prop:=k.e=0->0<=k.a/\k.a<=4096/\0<=k.b/\k.b<=256
def szR(k:Sz):A:=.tup [.agg [int k.a,int k.b],int k.e]
def fI(l:List Sz):wF:=l.flatMap fun k=>[int k.a,int k.b]
@[simp]theorem zYQ:fI []=[]:=rfl
@[simp]theorem zWS(k:Sz)(l:List Sz):fI (k::l)=int k.a::int k.b::fI l:=rfl
@[simp]theorem zTS(k l:List Sz):fI (k++l)=fI k++fI l:=by simp[fI]
@[simp]theorem zYP(l:List Sz):(fI l).length=l.length*2:=by
 induction l with
 |nil=>rfl
 |cons k l ih=>simp[ih];omega
theorem sW:∀l:List Sz,j4 (fI l)
 |[]=>j4.nil
 |k::l=>by have h:=sW l;exact⟨by simp[h.1],fun rf g=>by simp[h.2]⟩
@[simp]theorem zXz(l:List Sz):jV (fI l)=fI l:=(sW l).1
@[simp]theorem qCq{rf g}(l:List Sz):vwL rf g (fI l)=fI l:=(sW l).2 _ _
theorem vA:∀{l:List Sz} {i:Nat} (h:i<l.length),(fI l).drop (i*2)=int l[i].a::int l[i].b::fI (l.drop (i+1))
 |k::l,0,_=>by simp
 |k::l,i+1,h=>by
  have:=vA (l:=l) (i:=i) (by simpa using h);rw[show (i+1)*2=i*2+2 by omega]
  simpa using this
def yL:A:=.clo 177 [] [.ptr 0 0,.ptr 1 0,.ptr 2 0]
def mSt(p:Prg)(m:Int):St:=[.box (zI p),.box [int m],.box [yL]]
theorem iH:∀{l:List Sz},rQ l=0->∀k∈l,k.e=0
 |[],_,k,hk=>by simp at hk
 |x::l,h,k,hk=>by
  simp only[rQ]at h;split at h
  .contradiction
  .rename_i hx;rcases jA1.1 hk with rfl|hk
   .simpa using hx
   .exact iH h k hk
theorem zT0(p:Prg)(m:Int)(id:Id)(k:Int)(kids:wT)(d:Int)(hd:0<=d/\d<=24)(D:Dfn)(hD:dfn p id=D)(g:Typ->Sz)(hg:∀s∈D.slots,(g s.typ).Ok/\my 177 [.agg (zF s.typ),int (d+1),.ptr 0 0,.ptr 1 0,.ptr 2 0] (mSt p m) (szR (g s.typ)) (mSt p m))(hs:D.slots.length<=1000000) :
 my 179 [.agg (zI p),.agg (zF (.mk k id kids)),int d,yL] (mSt p m) (szR (aP (decide (D.kind=0)) (D.slots.map fun s=>g s.typ))) (mSt p m):=by
 refine mj [] [31] [] [.cell 8 2 true,.slot 9] Tryz.func179 (by kernel_rfl) ?_
 (conv in kH _ _ _=>cbv)
 simp -implicitDefEqProofs [zI,zF,mSt,yL];refine mu (lO p id) (by simp[zI,zS,dI]) ?_;rw[dfn]at hD;have hwd:=qF (d+1) (by omega);simp -implicitDefEqProofs [dI,hD,zJ];intro hl;refine qI (S:=Nat) (fun i=>[(2,int d),(3,yL),(4,.ptr 3 0),(5,.ptr 4 0),(8,.ptr 5 0),(9,int 0),(10,.ptr 6 0),(12,bl (decide (D.kind=0))),(13,.row 7 i),(33,.sl D.slots.length (qP D.slots)),(34,int D.slots.length),(35,int i)])
  (fun i=>mSt p m++[.box (zI p),.box (zF (.mk k id kids)),.box [int 0,int 0],.box (zJ D),.row false 198 2 i (fI ((D.slots.map fun s=>g s.typ).take i))])
  (fun i=>i<=D.slots.length/\rQ (D.slots.map fun s=>g s.typ)=rQ ((D.slots.map fun s=>g s.typ).drop i)) (fun i=>D.slots.length-i) 0 (by simp)
  (mw [0,1,2,3,4,5,6,7] 0 (by rfl) (by simp[mSt,zI,zF,zJ,yL])) ?_
 rintro i ⟨hi,ho⟩;by_cases h:i<D.slots.length
 .have hm:(D.slots.map fun s=>g s.typ).drop i=g D.slots[i].typ::(D.slots.map fun s=>g s.typ).drop (i+1):=by rw[jB6 (by simpa using h)];simp
  have htk:(D.slots.map fun s=>g s.typ).take (i+1)=(D.slots.map fun s=>g s.typ).take i++[g D.slots[i].typ]:=by rw[jA7 (by simpa using h)];simp
  obtain⟨hok,hret⟩:=hg D.slots[i] (jA0 h);simp -implicitDefEqProofs [h,qW h,aF,yL,mSt,hwd,zI];refine mr hret [0,1,2] (by simp[mSt,yL,zI,zF]) ?_;simp -implicitDefEqProofs [szR,mSt,yL,zI];refine jI (fun h'=>?_) (fun h'=>?_)<;>simp at h'
  .simp -implicitDefEqProofs;exact mv [0,1,2] 0 (by rfl) (by simp[mSt,yL,zI,aP,ho,hm,rQ,h'])
  .simp -implicitDefEqProofs;refine⟨⟨by simp[maxLen];omega,by omega⟩,?_⟩;exact zO (i+1) ⟨h,by rw[ho,hm];simp[rQ,h']⟩ (by omega) (mw [0,1,2,3,4,5,6,7] 0 (by rfl) (by simp[mSt,zI,zF,zJ,yL,htk,zZ h hl]))
 .have hi:i=D.slots.length:=by omega
  subst hi;have htk:(D.slots.map fun s=>g s.typ).take D.slots.length=D.slots.map fun s=>g s.typ:=jAl (by simp)
  have hoks:∀k∈D.slots.map fun s=>g s.typ,k.Ok:=fun k hk=>by obtain⟨s,hs,rfl⟩:=jA9.1 hk;exact(hg s hs).1
  have hln:(D.slots.map fun s=>g s.typ).length=D.slots.length:=by simp
  generalize (D.slots.map fun s=>g s.typ)=Z at ho htk hoks hln ⊢;have ho':rQ Z=0:=by rw[ho,<-hln];simp[rQ]
  clear ho;have hn6:Z.length<=1000000:=by omega
  rw[<-hln]at hl htk;have hzk:∀k∈Z,k.e=0/\0<=k.a/\k.a<=4096/\0<=k.b/\k.b<=256:=fun k hk=>⟨iH ho' k hk,hoks k hk (iH ho' k hk)⟩
  simp -implicitDefEqProofs [mSt,yL,htk,<-hln];refine jI (fun h'=>?_) (fun h'=>?_)<;>simp at h'
  .simp -implicitDefEqProofs [h',rY];refine qI (S:=Nat×Int×Int) (fun s=>[(8,.ptr 5 0),(9,int 0),(12,bl true),(18,.ptr 8 0),(60,.row 7 Z.length),(61,int Z.length),(62,int s.1)])
    (fun s=>mSt p m++[.box (zI p),.box (zF (.mk k id kids)),.box [int 0,int 0],.box (zJ D),.row false 198 2 Z.length (fI Z),.box [int s.2.1,int s.2.2]])
    (fun s=>s.1<=Z.length/\nU 1 1 Z=nU s.2.1 s.2.2 (Z.drop s.1)/\0<=s.2.1/\s.2.1<=4096/\0<=s.2.2/\s.2.2<=1+256*s.1) (fun s=>Z.length-s.1) (0,1,1) (by simp)
    (mw [0,1,2,3,4,5,6,7,8] 0 (by rfl) (by simp[mSt,zI,zF,zJ,yL,h'])) ?_
   rintro⟨j,a,b⟩ ⟨hj,hr,ha0,ha,hb0,hb⟩;simp only at hj hr ha0 ha hb0 hb;by_cases hjl:j<Z.length
   .obtain⟨_,g1,g2,g3,g4⟩:=hzk Z[j] (jA0 hjl);have hd:Z.drop j=Z[j]::Z.drop (j+1):=jB6 hjl;have hab0:0<=a*Z[j].a:=Int.mul_nonneg ha0 g1;have hab1:a*Z[j].a<=4096*4096:=Int.mul_le_mul ha g2 g1 (by decide);have hw1:=qF (a*Z[j].a) (by omega);have hw2:=qF (b+Z[j].b) (by omega);have hw3:=yK j (by omega);have hj2:j*2+2<=Z.length*2:=by omega
    simp -implicitDefEqProofs [hjl,vR,vA hjl,mSt,yL,hw1,hw2,hw3,hj2];refine jI (fun h4=>?_) (fun h4=>?_)<;>simp at h4
    .simp -implicitDefEqProofs;have e:nU 1 1 Z=⟨0,0,4⟩:=by rw[hr,hd,nU,if_pos h4]
     exact mv [0,1,2] 0 (by rfl) (by simp[mSt,yL,zI,aP,ho',e,h',szR])
    .simp -implicitDefEqProofs;exact zO (j+1,a*Z[j].a,b+Z[j].b) ⟨hjl,by rw[hr,hd,nU,if_neg (by omega)],hab0,h4,by simp only;omega,by simp only;omega⟩ (by simp only;omega) (mw [0,1,2,3,4,5,6,7,8] 0 (by rfl) (by simp[mSt,zI,zF,zJ,yL,hw3]))
   .have hjl':j=Z.length:=by omega
    subst hjl';simp -implicitDefEqProofs [mSt,yL];exact mv [0,1,2] 0 (by rfl) (by simp[mSt,yL,zI,aP,ho',hr,h',nU,szR])
  .simp -implicitDefEqProofs [h',rY];refine qI (S:=Nat×Int×Int) (fun s=>[(8,.ptr 5 0),(9,int 0),(12,bl false),(18,.ptr 8 0),(60,.row 7 Z.length),(61,int Z.length),(62,int s.1)])
    (fun s=>mSt p m++[.box (zI p),.box (zF (.mk k id kids)),.box [int 0,int 0],.box (zJ D),.row false 198 2 Z.length (fI Z),.box [int s.2.1,int s.2.2]])
    (fun s=>s.1<=Z.length/\gM 0 1 Z=gM s.2.1 s.2.2 (Z.drop s.1)/\0<=s.2.1/\s.2.1<=4096*s.1/\0<=s.2.2/\s.2.2<=257) (fun s=>Z.length-s.1) (0,0,1) (by simp)
    (mw [0,1,2,3,4,5,6,7,8] 0 (by rfl) (by simp[mSt,zI,zF,zJ,yL,h'])) ?_
   rintro⟨j,a,b⟩ ⟨hj,hr,ha0,ha,hb0,hb⟩;simp only at hj hr ha0 ha hb0 hb;by_cases hjl:j<Z.length
   .obtain⟨_,g1,g2,g3,g4⟩:=hzk Z[j] (jA0 hjl);have hd:Z.drop j=Z[j]::Z.drop (j+1):=jB6 hjl;have hw1:=qF (a+Z[j].a) (by omega);have hw2:=qF (1+Z[j].b) (by omega);have hw3:=yK j (by omega);have hj2:j*2+2<=Z.length*2:=by omega
    have hmx:max b (1+Z[j].b)=if b<1+Z[j].b then 1+Z[j].b else b:=by rw[Int.max_def];split<;>split<;>omega
    simp -implicitDefEqProofs [hjl,vR,vA hjl,mSt,yL,hw1,hw2,hw3,hj2];exact zO (j+1,a+Z[j].a,max b (1+Z[j].b)) ⟨hjl,by rw[hr,hd];simp[gM],by simp only;omega,by simp only;omega,by simp only;omega,by simp only;omega⟩ (by simp only;omega) (mw [0,1,2,3,4,5,6,7,8] 0 (by rfl) (by simp[mSt,zI,zF,zJ,yL,hmx,hw3]))
   .have hjl':j=Z.length:=by omega
    subst hjl';simp -implicitDefEqProofs [mSt,yL];exact mv [0,1,2] 0 (by rfl) (by simp[mSt,yL,zI,aP,ho',hr,h',gM,szR])
def Sml(p:Prg):Prop:=∀d∈p.defs,d.slots.length<=1000000
variable{p:Prg}
theorem Sml.dfn(h:Sml p)(id:Id):(dfn p id).slots.length<=1000000:=by
 unfold Go.Proofs.YtolkhapmieigcaaGreatDoor.dfn;cases hf:qG p.defs id with
 |none=>simp[Dfn.zero]
 |some d=>exact h d (yD hf).1
theorem zEw{n:Nat}{t:Typ}(h:y5 p n t=true)(hk:t.k=2):∃x,t.kids=[x]:=by
 cases n with
 |zero=>simp[y5]at h
 |succ n =>
  cases t with
  |mk k id kids =>
   simp only[Typ.k_mk]at hk;subst hk;rcases kids with _|⟨x,_|⟨y,l⟩⟩
   .simp[y5]at h
   .exact⟨x,rfl⟩
   .simp[y5]at h
theorem zKn{k:Sz}(h0:k.e=0->0<=k.a/\0<=k.b):(gN k).Ok:=by
 intro he;unfold gN at *
 split at he
 .simp at he;contradiction
 .rename_i h1;simp at h1;split at he
  .simp at he
  .rename_i h2;rw[if_neg (by simp[h1]),if_neg h2];have:=h0 h1;simp only;split<;>omega
theorem zOB:∀{l:List Sz} {a b:Int},(∀k∈l,k.e=0/\k.Ok)->0<=a->0<=b->0<=(nU a b l).a/\0<=(nU a b l).b
 |[],a,b,_,ha,hb=>⟨ha,hb⟩
 |k::l,a,b,h,ha,hb=>by
  have hk:=(h k (by simp)).2 (h k (by simp)).1;simp only[nU];split
  .simp
  .exact zOB (fun k hk=>h k (jAk _ hk)) (Int.mul_nonneg ha hk.1) (by omega)
theorem zJQ:∀{l:List Sz} {a b:Int},(∀k∈l,k.e=0/\k.Ok)->0<=a->0<=b->0<=(gM a b l).a/\0<=(gM a b l).b
 |[],a,b,_,ha,hb=>⟨ha,hb⟩
 |k::l,a,b,h,ha,hb=>by have hk:=(h k (by simp)).2 (h k (by simp)).1;simp only[gM];exact zJQ (fun k hk=>h k (jAk _ hk)) (by omega) (by omega)
theorem zGy{r:Bool}{l:List Sz}(h:∀k∈l,k.Ok)(he:(aP r l).e=0):0<=(aP r l).a/\0<=(aP r l).b:=by
 unfold aP at *
 split
 .simp
 .rename_i h0;have h0:rQ l=0:=by simpa using h0
  have hk:∀k∈l,k.e=0/\k.Ok:=fun k hk=>⟨iH h0 k hk,h k hk⟩
  split
  .exact zOB hk (by decide) (by decide)
  .exact zJQ hk (by decide) (by decide)
theorem zPZ{m:Int}{k:Sz}(h:k.Ok)(he:(dK m k).e=0):0<=(dK m k).a/\0<=(dK m k).b:=by
 unfold dK at *
 split
 .simp
 .rename_i h0;have h1:=h (by simpa using h0);have h2:0<=k.a*k.a:=Int.mul_nonneg h1.1 h1.1;split
  .simp
  .split<;>simp only<;>omega
theorem eF(p:Prg)(m:Int)(hm:0<=m/\m<=64):∀(n:Nat) (t:Typ),(jH p m n t).Ok
 | 0,t=>by unfold jH;split<;>intro h<;>simp at h
 |n+1,t=>by
  unfold jH;split
  .intro h;simp at h
  split
  .intro _;simp only;omega
  split
  .intro _;simp
  split
  .exact zKn (zPZ (eF p m hm n _))
  .exact zKn (zGy (fun k hk=>by obtain⟨s,_,rfl⟩:=jA9.1 hk;exact eF p m hm n _))
variable{N:Int}
theorem n9{M:Int}(h:M > 4096\/N > 256):gN ⟨M,N,0⟩=⟨0,0,4⟩:=by simp[gN,h]
theorem zAW(h:¬N > 256):gN ⟨0,N,0⟩=⟨0,0,0⟩:=by simp[gN,h]
theorem zAV{M:Int}(h:¬(M > 4096\/N > 256))(h0:M≠0):gN ⟨M,N,0⟩=⟨M,N,0⟩:=by simp[gN,h,h0]
def tb(a b:Int):Nat->Int×Int×Int
 | 0=>(1,1,1)
 | 1=>(a,1+a,1+b)
 |_=>(a*a,1+a+a*a,1+b+b)
theorem zSO(p:Prg)(hs:Sml p)(m:Int)(hm:0<=m/\m<=64):∀(n:Nat) (t:Typ) (d:Int),d=25-n->n<=24 ->
 my 177 [.agg (zF t),int d,.ptr 0 0,.ptr 1 0,.ptr 2 0] (mSt p m) (szR (jH p m n t)) (mSt p m):=by
 intro n;induction n with
 |zero =>
  intro t d hd _;have hd:d=25:=by omega
  subst hd;refine mq [(11,[0,1,2,3,4,7])] [.cell 7 2 true,.slot 8] Tryz.func177 (by kernel_rfl) ?_
  (conv in kq _ _=>cbv)
  simp -implicitDefEqProofs [zI,zF,mSt,yL];refine mu (zGB p t) (by simp[zI,zF]) ?_;simp -implicitDefEqProofs;cases hv:cI p t with
  |false =>
   simp -implicitDefEqProofs;exact mv [0,1,2] 0 (by rfl) (by simp[jH,hv,szR])
  |true =>
   simp -implicitDefEqProofs;exact mv [0,1,2] 0 (by rfl) (by simp[jH,hv,szR])
 |succ n ih =>
  intro t d hd hn;refine mq [(11,[0,1,2,3,4,7])] [.cell 7 2 true,.slot 8] Tryz.func177 (by kernel_rfl) ?_
  (conv in kq _ _=>cbv)
  simp -implicitDefEqProofs [zI,zF,mSt,yL];refine mu (zGB p t) (by simp[zI,zF]) ?_;have hd24:¬(24<d):=by omega
  have hwd:=qF (d+1) (by omega);simp -implicitDefEqProofs;cases hv:cI p t with
  |false =>
   simp -implicitDefEqProofs;exact mv [0,1,2] 0 (by rfl) (by simp[jH,hv,szR])
  |true =>
   by_cases h0:t.k=0
   .have hw1:=qF (2*m) (by omega);have hw2:=qF (2*m+1) (by omega);simp -implicitDefEqProofs [hd24,h0,hw1,hw2];exact mv [0,1,2] 0 (by rfl) (by simp[jH,hv,szR,h0])
   by_cases h1:t.k=1
   .simp -implicitDefEqProofs [hd24,h1];exact mv [0,1,2] 0 (by rfl) (by simp[jH,hv,szR,h1])
   by_cases h2:t.k=2
   .obtain⟨x,hx⟩:=zEw hv h2;simp -implicitDefEqProofs [hd24,h2,hx,hwd];have hok:=eF p m hm n x;have hsz:jH p m (n+1) t=gN (dK m (jH p m n x)):=by simp[jH,hv,h0,h1,h2,hx]
    rw[hsz];refine zIH (ih x (d+1) (by omega) (by omega)) [0,1,2] (by simp) (by simp[mSt,yL,zI]) (by simp[zF,qX]) (by simp[szR]) ?_;generalize jH p m n x=Z at hok ⊢;simp -implicitDefEqProofs [szR];refine jI (fun he=>?_) (fun he=>?_)<;>simp at he
    .simp -implicitDefEqProofs;exact mv [0,1,2] 0 (by rfl) (by simp[dK,gN,szR,he])
    .obtain⟨a,b,e⟩:=Z;simp only at he;subst he;have hok:=hok rfl;simp only at hok;simp -implicitDefEqProofs;have htail:∀M N:Int,True:=fun _ _=>trivial
     refine qI (S:=Nat) (fun j=>[(3,.ptr 1 0),(7,.ptr 4 0),(8,int 0),(9,.ptr 5 0),(10,.ptr 6 0),(12,int (tb a b j).1),(57,int (if 2<m then 2 else m)),(58,int j)])
      (fun j=>mSt p m++[.box (zF t),.box [int 0,int 0],.box [int (tb a b j).2.1,int (tb a b j).2.2],.box [int a,int b]])
      (fun j=>j=0\/(j=1/\1<=m)\/(j=2/\2<=m)) (fun j=>2-j) 0 (.inl rfl)
      (mw [0,1,2,3,4,5,6] 0 (by rfl) (by simp[mSt,zI,zF,yL,tb,h2,hx])) ?_
     have haa0:0<=a*a:=Int.mul_nonneg hok.1 hok.1;have haa1:a*a<=4096*4096:=Int.mul_le_mul hok.2.1 hok.2.1 hok.1 (by decide);have hw1:=qF a (by omega);have hw2:=qF (1+a) (by omega);have hw3:=qF (1+b) (by omega);have hw4:=qF (a*a) (by omega);have hw5:=qF (1+a+a*a) (by omega);have hw6:=qF (1+b+b) (by omega);have hsel:∀j:Nat,True:=fun _=>trivial
     rintro j (rfl|⟨rfl,hm1⟩|⟨rfl,hm2⟩)
     .by_cases hm1:1<=m
      .have hK:(0:Int)<(if 2<m then 2 else m):=by split<;>omega
       simp -implicitDefEqProofs [hK,mSt,yL,tb,hw1,hw2,hw3];exact zO 1 (.inr (.inl ⟨rfl,hm1⟩)) (by simp) (mw [0,1,2,3,4,5,6] 0 (by rfl) (by simp[mSt,zI,zF,yL,tb,show IntKind.i64.wrap 1=1 from by decide,show IntKind.i64.wrap 2=2 from by decide]))
      .have hK:¬((0:Int)<(if 2<m then 2 else m)):=by split<;>omega
       have hfin:dK m ⟨a,b,0⟩=⟨1,1,0⟩:=by simp[dK,show m<=0 by omega]
       simp -implicitDefEqProofs [hK,mSt,yL,tb];exact mv [0,1,2] 0 (by rfl) (by simp[zI,szR,hfin,gN])
     .by_cases hm2:2<=m
      .have hK:(1:Int)<(if 2<m then 2 else m):=by split<;>omega
       simp -implicitDefEqProofs [hK,mSt,yL,tb,hw4,hw5,hw6];exact zO 2 (.inr (.inr ⟨rfl,hm2⟩)) (by simp) (mw [0,1,2,3,4,5,6] 0 (by rfl) (by simp[mSt,zI,zF,yL,tb,show IntKind.i64.wrap 1=1 from by decide,show IntKind.i64.wrap 2=2 from by decide]))
      .have hK:¬((1:Int)<(if 2<m then 2 else m)):=by split<;>omega
       have hfin:dK m ⟨a,b,0⟩=⟨1+a,1+b,0⟩:=by simp[dK,show ¬m<=0 by omega,show m<=1 by omega]
       by_cases g4:4096<(1+a)
       .simp -implicitDefEqProofs [hK,mSt,yL,tb,g4];exact ke [0,1,2] 0 (by rfl) (by simp[zI]) (by simp[szR,hfin,n9 (N:=(1+b)) (.inl g4)])
       by_cases g5:256<(1+b)
       .simp -implicitDefEqProofs [hK,mSt,yL,tb,g4,g5];exact ke [0,1,2] 0 (by rfl) (by simp[zI]) (by simp[szR,hfin,n9 (M:=(1+a)) (.inr g5)])
       by_cases g6:(1+a)=0
       .simp -implicitDefEqProofs [hK,mSt,yL,tb,g4,g5,g6];exact mv [0,1,2] 0 (by rfl) (by simp[zI,szR,hfin,g6,zAW g5])
       .simp -implicitDefEqProofs [hK,mSt,yL,tb,g4,g5,g6];exact ke [0,1,2] 0 (by rfl) (by simp[zI]) (by simp[szR,hfin,zAV (show ¬((1+a) > 4096\/(1+b) > 256) by omega) g6])
     .have hK:¬((2:Int)<(if 2<m then 2 else m)):=by split<;>omega
      have hfin:dK m ⟨a,b,0⟩=⟨1+a+a*a,1+b+b,0⟩:=by simp[dK,show ¬m<=0 by omega,show ¬m<=1 by omega]
      by_cases g4:4096<(1+a+a*a)
      .simp -implicitDefEqProofs [hK,mSt,yL,tb,g4];exact ke [0,1,2] 0 (by rfl) (by simp[zI]) (by simp[szR,hfin,n9 (N:=(1+b+b)) (.inl g4)])
      by_cases g5:256<(1+b+b)
      .simp -implicitDefEqProofs [hK,mSt,yL,tb,g4,g5];exact ke [0,1,2] 0 (by rfl) (by simp[zI]) (by simp[szR,hfin,n9 (M:=(1+a+a*a)) (.inr g5)])
      by_cases g6:(1+a+a*a)=0
      .simp -implicitDefEqProofs [hK,mSt,yL,tb,g4,g5,g6];exact mv [0,1,2] 0 (by rfl) (by simp[zI,szR,hfin,g6,zAW g5])
      .simp -implicitDefEqProofs [hK,mSt,yL,tb,g4,g5,g6];exact ke [0,1,2] 0 (by rfl) (by simp[zI]) (by simp[szR,hfin,zAV (show ¬((1+a+a*a) > 4096\/(1+b+b) > 256) by omega) g6])
   .obtain⟨k,id,kids⟩:=t;simp only[Typ.k_mk]at h0 h1 h2;have hsz:jH p m (n+1) (.mk k id kids)=gN (aP (decide ((dfn p id).kind=0)) ((dfn p id).slots.map fun s=>jH p m n s.typ)):=by simp[jH,hv,h0,h1,h2];rfl
    have hok:=zGy (r:=decide ((dfn p id).kind=0)) (l:=(dfn p id).slots.map fun s=>jH p m n s.typ) (fun k hk=>by obtain⟨s,_,rfl⟩:=jA9.1 hk;exact eF p m hm n _)
    rw[hsz];simp -implicitDefEqProofs [hd24,h0,h1,h2];refine mr (zT0 p m id k kids d (by omega) (dfn p id) rfl (jH p m n) (fun s _=>⟨eF p m hm n _,ih s.typ (d+1) (by omega) (by omega)⟩) (hs.dfn id)) [0,1,2] (by simp[mSt,yL,zI,zF]) ?_;generalize aP (decide ((dfn p id).kind=0)) ((dfn p id).slots.map fun s=>jH p m n s.typ)=Z at hok ⊢;simp -implicitDefEqProofs [szR,mSt,yL];refine jI (fun he=>?_) (fun he=>?_)<;>simp at he
    .simp -implicitDefEqProofs;exact mv [0,1,2] 0 (by rfl) (by simp[zI,gN,szR,he])
    .obtain⟨a,b,e⟩:=Z;simp only at he;subst he;have hok:=hok rfl;simp only at hok;have hfin:True:=trivial;by_cases g4:4096<a
     .simp -implicitDefEqProofs [mSt,yL,g4];exact mv [0,1,2] 0 (by rfl) (by simp[zI,szR,hfin,n9 (N:=b) (.inl g4)])
     by_cases g5:256<b
     .simp -implicitDefEqProofs [mSt,yL,g4,g5];exact mv [0,1,2] 0 (by rfl) (by simp[zI,szR,hfin,n9 (M:=a) (.inr g5)])
     by_cases g6:a=0
     .simp -implicitDefEqProofs [mSt,yL,g4,g5,g6];exact mv [0,1,2] 0 (by rfl) (by simp[zI,szR,hfin,g6,zAW g5])
     .simp -implicitDefEqProofs [mSt,yL,g4,g5,g6];exact ke [0,1,2] 0 (by rfl) (by simp[zI]) (by simp[szR,hfin,zAV (show ¬(a > 4096\/b > 256) by omega) g6])
def size(p:Prg)(m:Int)(t:Typ):Sz:=jH p m 24 t
theorem zMW(p:Prg)(hs:Sml p)(m:Int)(hm:0<=m/\m<=64)(t:Typ):my 136 [.agg (zI p),.agg (zF t),int m] [] (szR (size p m t)) []:=by
 refine mq [] [.cell 6 2 true,.slot 7] Tryz.func136 (by kernel_rfl) ?_
 (conv in kq _ _=>cbv)
 simp -implicitDefEqProofs [zI,zF];refine mr (zSO p hs m hm 24 t 1 (by decide) (by decide)) [0,2,4] (by simp[mSt,yL,zI,zF]) ?_;simp -implicitDefEqProofs [szR,mSt,yL,zI];exact zB 0 (by simp[szR,size])
theorem zTN(h:FineP p)(t:Id):FineP (woP p t) :=
 ⟨jAz (jBp _ _) h.defs,h.mods,fun d hd=>h.slots d (List.mem_filter.1 hd).1,fun d hd=>h.nice d (List.mem_filter.1 hd).1,fun d hd=>h.size d (List.mem_filter.1 hd).1⟩
theorem tW(h:FineP p):FineP (bP p):=by
 refine⟨by simpa[bP]using h.defs,h.mods,fun d hd=>?_,fun d hd=>?_,fun d hd=>?_⟩<;>obtain⟨a,ha,rfl⟩:=jA9.1 hd
 .simpa[lU]using h.slots a ha
 .exact h.nice a ha
 .exact h.size a ha
theorem zAm{hs:wQ}(h:Fit p hs):Fit (bP p) ((bP p).defs.map Dfn.hd):=Fit.sameG (lT p) h
theorem zIc(p:Prg):nJ p.defs (bP p).defs=[]/\nJ (bP p).defs p.defs=[]:=zMp (lT p)
section
variable{p:Prg}{ev:Evl}
end
def TwQ(e e':Exp):Prop:=Ids e e'/\∀(q:Prg) (env:wJ) (u:Typ),WE q env e u->WE q env e' u
theorem zTD(e:Exp):TwQ e e:=⟨.rfl' e,fun _ _ _ h=>h⟩
theorem zTE(e e':Exp)(a x:Int)(hx:0<=x)(h:TwQ e e'):TwQ e (aC e' a x).1:=⟨h.1.trans (zHG e' a x),fun q env u hw=>qHE hx (h.2 q env u hw) a⟩
abbrev TwP(p q:Prg):Prop:=Al (TwD TwQ) p.defs q.defs
theorem zVQ(p:Prg)(l:wC)(hl:∀x∈l,w64 x=x)(i:Nat):TwP p ⟨p.mods,eJ l p.defs i⟩:=zLE zTD zTE l hl p.defs i
section
variable{p q:Prg}(hA:TwP p q)
include hA
theorem TwP.find(r:Id):(qG p.defs r=none/\qG q.defs r=none)\/∃d d',qG p.defs r=some d/\qG q.defs r=some d'/\TwD TwQ d d' :=
 Al.find (idf:=Dfn.id) (fun _ _ h=>by rw[h.eq];rfl) hA r
theorem TwP.to0:zEM p q:=Al.imp (fun _ _ h=>h.s0) hA
theorem TwP.key(r:Id)(d:Dfn)(hd:qG p.defs r=some d):∃d',qG q.defs r=some d'/\d'=d.wb d'.body:=by
 rcases TwP.find hA r with ⟨h1,_⟩|⟨a,b,h1,h2,h⟩
 .rw[h1]at hd;cases hd
 .rw[h1]at hd;cases hd;exact⟨b,h2,h.eq⟩
theorem TwP.fit{hs:wQ}(hf:Fit p hs):Fit q hs:=by
 refine⟨?_,by rw[hA.len];exact hf.len8,?_,fun d' hd'=>?_,fun d' hd'=>?_,fun r d' hd' hb=>?_⟩
 .rw[<-hf.heads];exact Al.map (f:=Dfn.hd) (g:=Dfn.hd) (fun a b h=>by rw[h.eq];rfl) hA
 .refine Al.pair (S:=fun a b:Dfn=>a.id≠b.id) (fun a b a' b' h h' hne=>?_) hA hf.nd;rw[h.eq,h'.eq];exact hne
 .obtain⟨d,hd,h⟩:=hA.mem hd';have:=hf.slots d hd;rw[h.eq];exact this
 .obtain⟨d,hd,h⟩:=hA.mem hd';have:=hf.kinds d hd;rw[h.eq];exact this
 .rcases TwP.find hA r with ⟨_,h2⟩|⟨d,d'',h1,h2,h⟩
  .rw[h2]at hd';cases hd'
  .rw[h2]at hd';cases hd';have he:cN d'=cN d:=by rw[h.eq];rfl
   have hr:d'.res=d.res:=by rw[h.eq];rfl
   have hk:d'.kind=d.kind:=by rw[h.eq];rfl
   have hb':dG d=true:=by unfold dG at hb ⊢;rw[<-hk];exact hb
   rw[he,hr];exact h.q.2 q _ _ (qHN (TwP.key hA) (hf.bods r d h1 hb'))
theorem TwP.nodes:((yE q.defs).map Exp.id).Perm ((yE p.defs).map Exp.id):=by
 have key:∀{l m:wS},Al (TwD TwQ) l m->((yE m).map Exp.id).Perm ((yE l).map Exp.id):=fun {l m} h=>by
  induction h with
  |nil=>exact .refl _
  | @cons a b l m h _ ih =>
   have e:∀(x:Dfn) (L:wS),yE (x::L)=(if dU x.kind then y7 x.body else [])++yE L:=fun _ _=>rfl
   have hk:b.kind=a.kind:=by rw[h.eq];rfl
   rw[e,e,hk,jBa,jBa];refine List.Perm.append ?_ ih;by_cases hb:dU a.kind=true
   .rw[if_pos hb,if_pos hb];exact h.q.1.2
   .rw[if_neg hb,if_neg hb]
 exact key hA
end
theorem zFS{α β:Type}{g : α->β}:∀{L:List α},(L.map g).Nodup->∀{a b : α},a∈L->b∈L->g a=g b->a=b
 |[],_,a,b,ha,_,_=>by simp at ha
 |x::L,h,a,b,ha,hb,e=>by
  rw[jAd,jD9]at h;rcases jA1.1 ha with rfl|ha'<;>rcases jA1.1 hb with rfl|hb'
  .rfl
  .exact(h.1 (e▸jA9.2 ⟨b,hb',rfl⟩)).elim
  .exact(h.1 (e▸jA9.2 ⟨a,ha',rfl⟩)).elim
  .exact zFS h.2 ha' hb' e
def NdN(p:Prg):Prop:=((yE p.defs).map Exp.id).Nodup
theorem NdN.eq(h:NdN p){a b:Exp}(ha:a∈yE p.defs)(hb:b∈yE p.defs)(he:a.id=b.id):a=b:=zFS h ha hb he
theorem TwP.nd{q:Prg}(hA:TwP p q)(h:NdN p):NdN q:=(TwP.nodes hA).nodup_iff.2 h
mutual
theorem zHl(f:Int->Id):∀e:Exp,((y7 (eB f e)).map Exp.id).Perm ((tmps e).map f)
 | .mk i n m r t ks ns=>by rw[eB,y7,jAd,tmps,jBa];exact((zEY f ks).cons _).trans (List.perm_append_singleton _ _).symm
theorem zEY(f:Int->Id):∀l:wH,((yU (oV f l)).map Exp.id).Perm ((jJ l).map f)
 |[]=>by rw[oV,yU,jJ];exact List.Perm.refl _
 |e::l=>by rw[oV,yU,jJ,jBa,jBa];exact(zHl f e).append (zEY f l)
end
theorem PrgOk.ndN{l:wC}(hl:∀x∈l,w64 x=x){P:Prg}(h:PrgOk l P):NdN P:=by
 obtain⟨hnm,hnm2⟩:=zJe l hl;generalize hN:nmV l=nm at *
 have m1:1<=(nm:Int):=by omega
 have m2:(nm:Int)<=2:=by omega
 obtain⟨n5,n8⟩:=bR l (nm:Int);have hh:=h.heads;rw[hN]at hh;have hlen:P.defs.length=(qD l nm).length:=by have:=congrArg List.length hh;simpa using this
 have hpl:=eA l nm m1 m2 hl;have hrange:=fun i=>iI (show 0<=(nm:Int) by omega) (fun p hp=>(hpl p hp).t6) i
 obtain⟨base,hb0,hbs⟩:=h.bodies;rw[hN]at hb0 hbs;have hbase:∀k,k<=P.defs.length->bH nm (qD l nm) (qD l nm).length<=base k/\base k<=bH nm (qD l nm) (qD l nm).length+32768*k:=by
  intro k;induction k with
  |zero=>intro _;rw[hb0];omega
  |succ k ih =>
   intro hk;have ih:=ih (by omega);rcases hbs k P.defs[k] (jA2 (by omega))with ⟨_,_,e⟩|⟨_,e,f,hr,e'⟩
   .rw[e];omega
   .rw[e'];have:=hr.len;omega
 have hmono:∀a b,a<=b->b<=P.defs.length->base a<=base b:=by
  intro a b hab;induction b with
  |zero =>
   intro _;have:a=0:=by omega
   rw[this];omega
  |succ b ih =>
   intro hb;by_cases e0:a=b+1
   .rw[e0];omega
   .have ih:=ih (by omega) (by omega);rcases hbs b P.defs[b] (jA2 (by omega))with ⟨_,_,e⟩|⟨_,e,f,hr,e'⟩
    .rw[e];exact ih
    .rw[e'];omega
 have hr0:=hrange (qD l nm).length;have key:∀(k:Nat) (hk:k<P.defs.length),dU P.defs[k].kind=true->((y7 P.defs[k].body).map Exp.id).Nodup/\∀y∈y7 P.defs[k].body,∃j:Int,y.id=idR j/\base k<=j/\j<base (k+1)/\0<=j/\j<=1000000000000000:=by
  intro k hk hb;have hB:dG P.defs[k]=true:=rN hb;have hbk:=hbase k (by omega);rcases hbs k P.defs[k] (jA2 hk)with ⟨h0,_,_⟩|⟨_,e,f,hr,e'⟩
  .rw[h0]at hB;cases hB
  .have hlt:=hr.len;have hp:=zHl f e;rw[<-hr.body]at hp;constructor
   .rw[hp.nodup_iff];unfold List.Nodup;rw[jC];refine hr.nd.imp_of_mem fun {a b} ha hb' hne he=>hne ?_
    obtain⟨j,hj,rfl⟩:=jAe ha;obtain⟨j',hj',rfl⟩:=jAe hb';rw[hr.ids j hj,hr.ids j' hj']at he;have:=tI (by omega) (by omega) (by omega) (by omega) he;have:j=j':=by omega
    subst this;rfl
   .intro y hy;have:y.id∈(tmps e).map f:=hp.mem_iff.1 (jA9.2 ⟨y,hy,rfl⟩);obtain⟨c,hc,hc'⟩:=jA9.1 this;obtain⟨j,hj,rfl⟩:=jAe hc;rw[hr.ids j hj]at hc';exact⟨_,hc'.symm,by omega,by omega,by omega,by omega⟩
 unfold NdN yE;rw[List.map_flatMap];unfold List.Nodup;rw[List.pairwise_flatMap];refine⟨fun d hd=>?_,?_⟩
 .obtain⟨k,hk,rfl⟩:=jAe hd;by_cases hb:dU P.defs[k].kind=true
  .rw[if_pos hb];exact(key k hk hb).1
  .rw[if_neg hb];exact List.Pairwise.nil
 .rw[jC0];intro k k' hk hk' hlt x hx y hy he;by_cases hb:dU P.defs[k].kind=true
  .by_cases hb':dU P.defs[k'].kind=true
   .rw[if_pos hb]at hx;rw[if_pos hb']at hy;obtain⟨a,ha,rfl⟩:=jA9.1 hx;obtain⟨b,hb2,rfl⟩:=jA9.1 hy;obtain⟨j,a1,a2,a3,a4,a5⟩:=(key k hk hb).2 a ha;obtain⟨j',b1,b2,b3,b4,b5⟩:=(key k' hk' hb').2 b hb2;have hjj:=tI a4 a5 b4 b5 (a1.symm.trans (he.trans b1));have:=hmono (k+1) k' (by omega) (by omega);omega
   .rw[if_neg hb']at hy;simp at hy
  .rw[if_neg hb]at hx;simp at hx
end Go.Proofs.YtolkhapmieigcaaGreatDoor
namespace Go.Proofs.YtolkhapmieigcaaGreatDoor
open Go Go.Abs
def qGb:List KG:=[⟨none,.box (some 3) (.tmp 0)⟩,⟨none,.alloc (some 6) [(.int .i64 0),(.int .i64 0),(.slice none 0 0)]⟩,⟨none,.alloc (some 7) [(.int .i64 0)]⟩,⟨none,.alloc (some 8) [(.int .i64 0)]⟩]
def qGc:List KG:=[⟨none,.ld (some 10) (.tmp 3) 2 true⟩,⟨none,.mov (some 11) (.tmp 1)⟩,⟨none,.mm (some 12) true [(.tmp 11),(.const (.int .i64 0))]⟩,
 ⟨none,.build (some 13) [(.slice none 0 0),(.slice none 0 0),(.int .i64 0),(.int .i64 0)] [(0,2,(.tmp 10)),(2,1,(.tmp 12))]⟩,⟨none,.box (some 14) (.tmp 13)⟩,⟨none,.mov (some 9) (.tmp 14)⟩]
def zVc:List KG:=[⟨none,.mov (some 16) (.tmp 2)⟩,⟨none,.mov (some 17) (.tmp 9)⟩,⟨none,.call (some 18) (.tmp 16) [(.tmp 17)]⟩,⟨none,.st none (.tmp 6) (.tmp 18) 3⟩]
def qGd:List KG:=[⟨none,.addr (some 19) (.tmp 6) 2⟩,⟨none,.ld (some 20) (.tmp 19) 1 false⟩,⟨none,.call (some 21) (.func 149) [(.tmp 20)]⟩,⟨none,.addr (some 22) (.tmp 6) 2⟩,⟨none,.st none (.tmp 22) (.tmp 21) 1⟩]
def qGe:List (Nat×Nat×KG):=[(0,0,⟨none,.ld (some 23) (.tmp 6) 3 true⟩),(1,0,⟨none,.mov (some 24) (.tmp 9)⟩),(2,0,⟨none,.nilc (some 25) (.tmp 24)⟩),(3,2,⟨none,.addr (some 26) (.tmp 25) 3⟩),(4,2004,⟨none,.ld (some 27) (.tmp 26) 1 false⟩),
 (5,1004,⟨none,.st none (.tmp 6) (.tmp 23) 3⟩),(6,0,⟨none,.st none (.tmp 7) (.tmp 27) 1⟩),(7,0,⟨none,.st none (.tmp 8) (.const (.int .i64 0)) 1⟩)]
def hDo:Nat->Option wE:=fun|5=>k_ [0,0,0,2,2004,1004,0,0]|_=>none
def dfr(pv ps pe:Value):Deferred:={target:=.fn (.func 148) #[pv,ps,pe],args:=#[]}
abbrev sDo(D:St)(p:Prg)(F:Int)(v:Val)(n e:Int)(s:XS):St:=D++[.box (zI p),.box (zN v),.box [int n],.box [int e]]++eS p F s
def zHd(F:Int)(r:Val×XS):A:=if r.2.fail=0 then .tup [.agg (zN r.1),int (F-r.2.fuel),int 0]else .tup [.agg (zN vz),int 0,int r.2.fail]
noncomputable def zXP:K:=zV Tryz.prog Tryz.f79 z7 []
theorem qEm:ky Tryz.f79 zXP:=m_ (by kernel_rfl)
section
variable{p:Prg}{F:Int}{d:Dfn}{us:wI}{s:XS}{r:Val×XS}
abbrev dA(d:Dfn)(us:wI):St:=[.box (zJ d),.box [.sl us.length (zT us)]]
abbrev qNS(G:Int):List (Nat×A):=[(1,int G),(2,.clo 79 [] [.ptr 0 0,.ptr 1 0]),(3,.ptr 2 0),(6,.ptr 3 0),(7,.ptr 4 0),(8,.ptr 5 0)]
abbrev zMN:List (Nat×A):=[(2,.clo 79 [] [.ptr 0 0,.ptr 1 0]),(6,.ptr 3 0),(7,.ptr 4 0),(8,.ptr 5 0),(9,.ptr 6 0)]
theorem zYW{G:Int}(hG:F=max G 0)(hs:s.fuel=F)(hz:r.2.fail=0->qY r.1<=256)
 (hret:r.2.fail=0->my 79 [.ptr 0 0,.ptr 1 0,.ptr 2 0] (eS p F s++dA d us) (.agg (zN r.1)) (eS p F r.2++dA d us))
 (hpan:r.2.fail≠0->aK Tryz.prog 79 [.ptr 0 0,.ptr 1 0,.ptr 2 0] (eS p F s++dA d us) fun o U'=>o=.pan (zKi r.2.fail)/\U'[1]?=some (.box (zJ d))/\U'[2]?=some (.box [.sl us.length (zT us)])) :
 my 78 [.agg (zI p),int G,.clo 79 [] [.ptr 0 0,.ptr 1 0]] (dA d us) (zHd F r) (dA d us):=by
 have hP:=eP p;refine tX (fun H L w vs hst hargs=>?_);have hL:L.length=2:=hst.len
 suffices h:∀R:Ending->World->Prop,(∀(v:Value) (U':St) (H':Mem) (L':wO) (w':World) (r':A),Rel H' L' r' v->Nxt H L w H' L' U' w'->sP 2 (zHd F r) (dA d us) (.ret r') U'->R (.returned v) w')->CallsIn Fence.wide 0 Tryz.prog 78 vs.toArray w R from
  callsIn_wide.1 (h _ fun v U' H' L' w' r' g1 g2 g3=>⟨.ret r',U',H',L',⟨v,rfl,g1⟩,g2,g3⟩)
 intro R hR;refine callsIn_of_wp_defers (n:=0) (F:=Fence.wide) Tryz.func78 rfl trivial ?_;refine zCt (n0:=2) (hint:=hDo) (l:=qGb) (N:=28) (by kernel_rfl) (zDA hargs _) hst (Q:=fun x env τ=>x=.norm/\fU 2 (jO (qNS G))
  (dA d us++[.box (zI p),.box (zN vz),.box [int 0],.box [int 0]]) env τ) ?_ (fun env' τ H' L' w' a' hd' he' hn' hq'=>?_) (fun x _ _ _ _ _ _ hx _ _ _ hq=>(hx hq.1).elim)
 .unfold qGb;simp[hP];exact mw [0,1,2,3,4,5] 0 (by rfl) (by simp[zN,qT,qJ,zX])
 obtain⟨H',L',hn',he'⟩:=hq'.2 _ _ _ _ _ _ _ _ hL hn' he';refine zCt (n0:=2) (hint:=hDo) (l:=qGc) (N:=28) (by kernel_rfl) he' hn'.st (Q:=fun x env τ=>x=.norm/\fU 2 (jO zMN) (sDo (dA d us) p F vz 0 0 s) env τ)
  ?_ (fun env' τ H1 L1 w' a' hd'' he1 hn1 hq1=>?_) (fun x _ _ _ _ _ _ hx _ _ _ hq=>(hx hq.1).elim)
 .unfold qGc;simp[hP];exact kf [0,1,2,3,4,5,6] 0 (by rfl) (by simp[zN,qT,qJ,zX,eS,hP,hs];omega) (by simp)
 rw[hd']at hd'';obtain⟨H',L',hn',he'⟩:=hq1.2 _ _ _ _ _ _ _ _ hL (hn'.trans hn1) he1;have hmf:∀(fn:Fn) (first cap:Array Value) (w:World),(Instr.makeFunc fn first cap).run Tryz.prog w=.ok (.func fn first cap) w:=fun _ _ _ _=>rfl
 have hsz:28<=a'.tmps.size:=he'.1;have hsz':15<a'.tmps.size:=by omega
 refine wpIn_seq (wpIn_region_list ?_);simp only[wpListIn];simp[Region.wanted,Oper.wpIn,Oper.uponIn,go_sem,hmf,Exit.then,hsz',hd'',wpListIn];have h6:=he'.2 6;have h7:=he'.2 7;have h8:=he'.2 8;rw[jDw]at h6 h7 h8;have he3:∀X,qL H' L' 28 (jO zMN) (a'.tmps.setIfInBounds 15 X):=fun X=>by
  have:=he'.put (a:=a') (d:=some 15) (fun x hx=>by cases hx;omega) (r:=.any) (v:=X) (by simp[Rel]);have h15:Env.put (jO zMN) (some 15) .any=jO zMN:=by
   funext t;simp only[Env.put];split
   .rename_i ht;subst ht;rfl
   .rfl
  rw[h15]at this;exact this
 generalize a'.tmps[6]?.getD undef=pv at *
 generalize a'.tmps[7]?.getD undef=ps at *
 generalize a'.tmps[8]?.getD undef=pe at *
 have he3:=he3 (Value.func (Fn.func 148) #[] #[pv,ps,pe]);generalize a'.tmps.setIfInBounds 15 (Value.func (Fn.func 148) #[] #[pv,ps,pe])=tm at *
 have idle:∀(pv ps pe:Value) (tm:Array Value) (w3:World) (v:Value),(results Tryz.f78 tm).run Tryz.prog w3=.ok v w3->R (.returned v) w3->LeavesIn Fence.wide 0 Tryz.prog Tryz.f78 tm R [dfr pv ps pe] .returning w3:=fun pv ps pe tm w3 v g1 g2=>by refine leavesIn_cons (f:=148) (args:=#[pv,ps,pe]) (by simp) (by simp[Fence.wide]) (by simp[go_sem]) (fun _ _=>trivial) ?_;refine(zPu pv ps pe w3).mono ?_;rintro e u' w'' ⟨rfl,rfl,rfl⟩;exact⟨v,g1,g2⟩
 by_cases hf:r.2.fail=0
 .refine zCt (n0:=2) (hint:=hDo) (l:=zVc) (N:=28) (by kernel_rfl) he3 hn'.st (Q:=fun x env τ=>x=.norm/\fU 2 (jO zMN) (sDo (dA d us) p F r.1 0 0 r.2) env τ) ?_
   (fun env' τ H1 L1 w1 a1 hd1 he1 hn1 hq1=>?_) (fun x _ _ _ _ _ _ hx _ _ _ hq=>(hx hq.1).elim)
  .unfold zVc;simp[eS,hP];refine mr (hret hf) [6,0,1] (by simp[eS,hP]) ?_;simp[eS,hP,zN];exact mw [0,1,2,3,4,5,6] 0 (by rfl) (by simp[zN])
  obtain⟨H',L',hn',he'⟩:=hq1.2 _ _ _ _ _ _ _ _ hL (hn'.trans hn1) he1;have hco:=zAN r.1.kids (by have:=hz hf;have:=i9 r.1;omega);refine zCt (n0:=2) (hint:=hDo) (l:=qGd) (N:=28) (by kernel_rfl) he' hn'.st (Q:=fun x env τ=>x=.norm/\fU 2 (jO zMN) (sDo (dA d us) p F r.1 0 0 r.2) env τ) ?_
   (fun env' τ H1 L1 w1 a1 hd2 he1 hn1 hq1=>?_) (fun x _ _ _ _ _ _ hx _ _ _ hq=>(hx hq.1).elim)
  .unfold qGd;simp[eS,hP,zN];refine mu hco (by simp) ?_;simp[eS,hP,zN];exact mw [0,1,2,3,4,5,6] 0 (by rfl) (by simp[zN])
  obtain⟨H',L',hn',he'⟩:=hq1.2 _ _ _ _ _ _ _ _ hL (hn'.trans hn1) he1;refine zTr (n0:=2) (hint:=hDo) (l:=qGe) (N:=28) (by kernel_rfl) he' hn'.st (Q:=fun x env τ=>x=.norm/\fU 2 (jO zMN) (sDo (dA d us) p F r.1 (F-r.2.fuel) 0 r.2) env τ) ?_
   (fun env' τ H1 L1 w1 a1 hd3 he1 hn1 hq1=>?_) (fun x _ _ _ _ _ _ hx _ _ _ hq=>(hx hq.1).elim)
  .unfold qGe;simp[eS,hP,zN]
   try refine⟨(zAo (by decide) (by decide)).2 (by simp[eX]),(zJ4 (by decide) (by decide)).2 (by simp[pP]),?_⟩
   exact mw [0,1,2,3,4,5,6] 0 (by rfl) (by simp[zN])
  obtain⟨H',L',hn',he'⟩:=hq1.2 _ _ _ _ _ _ _ _ hL (hn'.trans hn1) he1;have hds:a1.defers=[dfr pv ps pe]:=hd3.trans (hd2.trans hd1);refine wpIn_ret ?_;show LeavesIn Fence.wide 0 Tryz.prog Tryz.f78 a1.tmps R a1.defers .returning w1;rw[hds];obtain⟨v,g1,g2⟩:=xD (P:=Tryz.prog) (fn:=Tryz.f78) (rs:=[.cell 6 3 true,.cell 7 1 false,.cell 8 1 false]) (by kernel_rfl) he' hn'.st (a:=.tup [.agg (zN r.1),int (F-r.2.fuel),int 0]) (by simp[zQu,dC,pS,ldA,zN]);exact idle pv ps pe _ _ v g1 (hR v _ _ _ _ _ g2 hn' (mv [0,1] 0 (by rfl) (by simp[zHd,hf,zN])))
 .refine zCt (n0:=2) (hint:=hDo) (l:=zVc) (N:=28) (by kernel_rfl) he3 hn'.st (Q:=fun x env τ=>x=.pan (zKi r.2.fail)/\(env 6=.ptr 3 0/\env 7=.ptr 4 0/\env 8=.ptr 5 0)/\τ[0]?=some (.box (zJ d))/\τ[1]?=some (.box [.sl us.length (zT us)]) /\
   τ[3]?=some (.box [int 0,int 0,.sl 0 []])/\τ[4]?=some (.box [int 0])/\τ[5]?=some (.box [int 0])) ?_ (fun env' τ H1 L1 w1 a1 hd1 he1 hn1 hq1=>by cases hq1.1) (fun x env' τ H1 L1 w1 a1 hx hd1 he1 hn1 hq1=>?_)
  .unfold zVc;simp[eS,hP];refine zCF (C:=fun vs w R=>Calls Tryz.prog _ vs.toArray w R) (sS Tryz.prog _) (hpan hf) [6,0,1] (by decide) (by simp[eS,hP]) (by simp) fun o U1 h0=>?_
   obtain⟨rfl,g1,g2⟩:=h0;have hlen:∀n,3<=(U1.map (fD [6,0,1] n)).length:=fun n=>by rw[jAb];exact(jA5.1 g2).1
   refine⟨rfl,⟨rfl,rfl,rfl⟩,?_,?_,?_,?_,?_⟩
   .rw[oE (js:=[6,0,1]) (hlen _) (by decide) (by simp) (i:=1) rfl,jBi];simp[g1,fD,vwO]
   .rw[oE (js:=[6,0,1]) (hlen _) (by decide) (by simp) (i:=2) rfl,jBi];simp[g2,fD,vwO]
   .rw[lR (by simp) (by simp)];simp[zN,qT,qJ,zX]
   .rw[lR (by simp) (by simp)];simp
   .rw[lR (by simp) (by simp)];simp
  .obtain⟨rfl,⟨e6,e7,e8⟩,t0,t1,t3,t4,t5⟩:=hq1;have l3:=(jA5.1 t3).1;have l4:=(jA5.1 t4).1;have l5:=(jA5.1 t5).1;have hds:a1.defers=[dfr pv ps pe]:=hd1;show LeavesIn Fence.wide 0 Tryz.prog Tryz.f78 a1.tmps R a1.defers (.panicking [{v:=zKi r.2.fail,recovered:=false}]) w1;rw[hds];refine leavesIn_cons (f:=148) (args:=#[pv,ps,pe]) (by simp) (by simp[Fence.wide]) (by simp[go_sem]) (fun _ _=>trivial) ?_;refine(zKf (vs:=[pv,ps,pe]) hn1.st (qN (Rel.mono hn1.step.hle hn1.lle _ h6) (qN (Rel.mono hn1.step.hle hn1.lle _ h7) (qN (Rel.mono hn1.step.hle hn1.lle _ h8) jR))) t3 t4 t5 (by decide) (by decide) (by decide)).mono ?_;rintro e u' w'' ⟨rfl,rfl,H2,L2,hn2⟩;obtain⟨v,g1,g2⟩:=xD (P:=Tryz.prog) (fn:=Tryz.f78) (rs:=[.cell 6 3 true,.cell 7 1 false,.cell 8 1 false]) (by kernel_rfl) (he1.mono hn2.step.hle hn2.lle) hn2.st (a:=.tup [.agg [int 0,int 0,.nil],int 0,int r.2.fail])
    (by simp[zQu,dC,pS,ldA,e6,e7,e8,jDp,l3,l4,l5])
   exact⟨v,g1,hR v _ _ _ _ _ g2 (hn'.trans (hn1.trans hn2)) (mv [0,1] 0 (by rfl) (by simp[t0,t1,zHd,hf,zN,qT,qJ,zX]))⟩
end
end Go.Proofs.YtolkhapmieigcaaGreatDoor
