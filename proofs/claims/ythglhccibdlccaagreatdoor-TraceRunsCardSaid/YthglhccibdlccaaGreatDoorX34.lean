/-
  The maker's expressions, walked: what binds.
  The maker's expressions have the types that they are to have.
-/
import Derived.Test.YthglhccibdlccaaGreatDoorX33
set_option linter.unusedVariables false
set_option linter.unusedSimpArgs false
namespace Go.Proofs.YthglhccibdlccaaGreatDoor
open Go.Abs
@[simp] theorem qEh {σ : St}:zDn 2002 σ = σ:=rfl
theorem zBf {s:ByteArray}:jY [s]=[.lit (.string s)]:=rfl
theorem zBh {s s':ByteArray}:jY [s,s']=[.lit (.string s),.lit (.string s')]:=rfl
abbrev zV3:FuncId:=81
set_option maxHeartbeats 4000000 in
theorem qBE {m m0:Mk}{env:List Bnd}{t:Typ}{depth:Int}(hd1 : -1000≤depth)(hd2:depth≤1000){X:Int}(hX0:0≤X)(hX1:X<65536){F:List Bnd}(hF:F.length≤1000)(hE0:0<env.length)(hE:env.length≤1000)
 (hnum:Ret Tryz.prog zI1 [.ptr 0 0,int 65536] (mkS m) (int X) (mkS m0))(hfit:Ret Tryz.prog zIn [.sl env.length (zQ env),.agg (zB t)] [] (.sl F.length (zQ F)) [])(hleft:0<m0.left)(hd:0<depth)(hc:F=[]∨X.tmod 3≠0)(hk:(X.tdiv 3).tmod 12=2){j:Nat}(hj:j<env.length)(e1:(X.tdiv 36).tmod (env.length:Int)=j){a b:Exp}{m1 m2 m3 m4:Mk}{s:ByteArray}(ga:Ret Tryz.prog yU [.ptr 0 0,.agg (zB env[j].typ),.sl env.length (zQ env),int (depth-1)] (mkS m0) (.agg (zF a)) (mkS m1))(hln:Lim m1 1)(hm2:m2={m1 with temp:=m1.temp+1,left:=m1.left-1})
 (gn:Ret Tryz.prog zV3 [.ptr 0 0] (mkS m2) (.lit (.string s)) (mkS m3))(gb:Ret Tryz.prog yU [.ptr 0 0,.agg (zB t),.sl (env.length+1) (zQ (env++[⟨⟨0,0,m1.temp⟩,0,env[j].typ⟩])),int (depth-1)] (mkS m3) (.agg (zF b)) (mkS m4)) :
 Ret Tryz.prog yU [.ptr 0 0,.agg (zB t),.sl env.length (zQ env),int depth] (mkS m) (.agg (zF (.mk ⟨0,0,m1.temp⟩ 6 0 Id.zero Typ.zero [a,b] [s]))) (mkS m4):=by
 have hl':¬m0.left≤0:=by omega
 have hd':¬depth≤0:=by omega
 have d3:X.tdiv 3=X / 3:=tdN hX0;have w3:IntKind.i64.wrap (X.tdiv 3)=X.tdiv 3:=IntWalk.i64_in _ (by omega);have d36:X.tdiv 36=X / 36:=tdN hX0;have w36:IntKind.i64.wrap (X.tdiv 36)=X.tdiv 36:=IntWalk.i64_in _ (by omega);have d12:(X.tdiv 3).tmod 12=(X.tdiv 3) % 12:=tmN (by omega);have wd:IntKind.i64.wrap (depth-1)=depth-1:=IntWalk.i64_in _ (by omega);obtain⟨l1,l2,l3,l4,l5,l6,l7,l8⟩:=hln;have hdr:=zBW hj;have hdr4:List.drop (j*9+4) (zQ env)=(zA9 env[j]++zQ (env.drop (j+1))).drop 4:=by rw[←List.drop_drop,hdr]
 have hb4:j*9+4+5≤env.length*9:=by omega
 have hne:¬((env.length:Int)=0):=by omega
 have hnil:env≠[]:=fun e=>by rw[e]at hE0; simp at hE0
 have hnode:=yH m1 6 0 [] l3 (by omega) (by omega) l6;rw[←hm2]at hnode;rcases hc with hc | hc
 ·subst hc;refine zH Tryz.func34 rfl zBu (rs:=[.cell 8 15 true]) (by kernel_rfl) ?_;unfold zBn;simp[mkS,mkB,zB];refine zN hnum [0,1] (by decide) (by simp[mkS,mkB]) (by simp) ?_;simp[mkS,mkB];refine zR hfit (by simp[zB]) (by simp) ?_;simp[mkS,mkB,hl',hd',w3,w36,hk,wd,e1,hne,hnil,hj,hdr4,hb4,zA9];intro _;refine zN ga [0,1] (by decide) (by simp[mkS,mkB]) (by simp[zB]) ?_;simp[mkS,mkB];refine zN hnode [0,1] (by decide) (by simp[mkS,mkB]) (by simp) ?_;simp[mkS,mkB,zF];refine zN gn [0,1] (by decide) (by simp[mkS,mkB]) (by simp) ?_;simp[mkS,mkB];refine qE (zCI env ⟨⟨0,0,m1.temp⟩,0,env[j].typ⟩ (by omega)) (by simp[zA9]) (by simp) ?_;simp[mkS,mkB,wd];refine yX gb [0,1] (by decide) (by simp[mkS,mkB]) (by simp[zB]) (by decide) (by simp) (by simp[mkS]) ?_;simp[mkS,mkB];exact zG [0,1] 0 (by decide) (by simp) (by simp) (by simp[zF,zJ,zBf,zBh])
 ·by_cases hF0:F=[]
  ·subst hF0;refine zH Tryz.func34 rfl zBu (rs:=[.cell 8 15 true]) (by kernel_rfl) ?_;unfold zBn;simp[mkS,mkB,zB];refine zN hnum [0,1] (by decide) (by simp[mkS,mkB]) (by simp) ?_;simp[mkS,mkB];refine zR hfit (by simp[zB]) (by simp) ?_;simp[mkS,mkB,hl',hd',w3,w36,hk,wd,e1,hne,hnil,hj,hdr4,hb4,zA9];intro _;refine zN ga [0,1] (by decide) (by simp[mkS,mkB]) (by simp[zB]) ?_;simp[mkS,mkB];refine zN hnode [0,1] (by decide) (by simp[mkS,mkB]) (by simp) ?_;simp[mkS,mkB,zF];refine zN gn [0,1] (by decide) (by simp[mkS,mkB]) (by simp) ?_;simp[mkS,mkB];refine qE (zCI env ⟨⟨0,0,m1.temp⟩,0,env[j].typ⟩ (by omega)) (by simp[zA9]) (by simp) ?_;simp[mkS,mkB,wd];refine yX gb [0,1] (by decide) (by simp[mkS,mkB]) (by simp[zB]) (by decide) (by simp) (by simp[mkS]) ?_;simp[mkS,mkB];exact zG [0,1] 0 (by decide) (by simp) (by simp) (by simp[zF,zJ,zBf,zBh])
  ·have hFl:0<F.length:=by cases F with
    | nil=>exact(hF0 rfl).elim
    | cons=>simp
   refine zH Tryz.func34 rfl zBu (rs:=[.cell 8 15 true]) (by kernel_rfl) ?_;unfold zBn;simp[mkS,mkB,zB];refine zN hnum [0,1] (by decide) (by simp[mkS,mkB]) (by simp) ?_;simp[mkS,mkB];refine zR hfit (by simp[zB]) (by simp) ?_;simp[mkS,mkB,hl',hd',hF0,hFl,hc,w3,w36,hk,wd,e1,hne,hnil,hj,hdr4,hb4,zA9];intro _;intro _;refine zN ga [0,1] (by decide) (by simp[mkS,mkB]) (by simp[zB]) ?_;simp[mkS,mkB];refine zN hnode [0,1] (by decide) (by simp[mkS,mkB]) (by simp) ?_;simp[mkS,mkB,zF];refine zN gn [0,1] (by decide) (by simp[mkS,mkB]) (by simp) ?_;simp[mkS,mkB];refine qE (zCI env ⟨⟨0,0,m1.temp⟩,0,env[j].typ⟩ (by omega)) (by simp[zA9]) (by simp) ?_;simp[mkS,mkB,wd];refine yX gb [0,1] (by decide) (by simp[mkS,mkB]) (by simp[zB]) (by decide) (by simp) (by simp[mkS]) ?_;simp[mkS,mkB];exact zG [0,1] 0 (by decide) (by simp) (by simp) (by simp[zF,zJ,zBf,zBh])
set_option maxHeartbeats 4000000 in
theorem zX2 {m m0:Mk}{env:List Bnd}{t:Typ}{depth:Int}(hd1 : -1000≤depth)(hd2:depth≤1000){X:Int}(hX0:0≤X)(hX1:X<65536){F:List Bnd}(hF:F.length≤1000)(hE0:0<env.length)(hE:env.length≤1000)
 (hnum:Ret Tryz.prog zI1 [.ptr 0 0,int 65536] (mkS m) (int X) (mkS m0))(hfit:Ret Tryz.prog zIn [.sl env.length (zQ env),.agg (zB t)] [] (.sl F.length (zQ F)) [])(hleft:0<m0.left)(hd:0<depth)(hc:F=[]∨X.tmod 3≠0)(hk:(X.tdiv 3).tmod 12=8){a b c:Exp}{m1 m2 m3 m4 m5 m6:Mk}{s s':ByteArray}(ga:Ret Tryz.prog yU [.ptr 0 0,.agg (zB (jM jK)),.sl env.length (zQ env),int (depth-1)] (mkS m0) (.agg (zF a)) (mkS m1))(gb:Ret Tryz.prog yU [.ptr 0 0,.agg (zB t),.sl env.length (zQ env),int (depth-1)] (mkS m1) (.agg (zF b)) (mkS m2))(hln:Lim m2 1)(hm3:m3={m2 with temp:=m2.temp+1,left:=m2.left-1})
 (gn:Ret Tryz.prog zV3 [.ptr 0 0] (mkS m3) (.lit (.string s)) (mkS m4))(gn':Ret Tryz.prog zV3 [.ptr 0 0] (mkS m4) (.lit (.string s')) (mkS m5))(gc:Ret Tryz.prog yU [.ptr 0 0,.agg (zB t),.sl (env.length+1+1) (zQ (env++[⟨⟨0,0,m2.temp⟩,0,jK⟩]++[⟨⟨0,0,m2.temp⟩,1,t⟩])),int (depth-1)] (mkS m5) (.agg (zF c)) (mkS m6)) :
 Ret Tryz.prog yU [.ptr 0 0,.agg (zB t),.sl env.length (zQ env),int depth] (mkS m) (.agg (zF (.mk ⟨0,0,m2.temp⟩ 12 0 Id.zero Typ.zero [a,b,c] [s,s']))) (mkS m6):=by
 have hl':¬m0.left≤0:=by omega
 have hd':¬depth≤0:=by omega
 have d3:X.tdiv 3=X / 3:=tdN hX0;have w3:IntKind.i64.wrap (X.tdiv 3)=X.tdiv 3:=IntWalk.i64_in _ (by omega);have d36:X.tdiv 36=X / 36:=tdN hX0;have w36:IntKind.i64.wrap (X.tdiv 36)=X.tdiv 36:=IntWalk.i64_in _ (by omega);have d12:(X.tdiv 3).tmod 12=(X.tdiv 3) % 12:=tmN (by omega);have wd:IntKind.i64.wrap (depth-1)=depth-1:=IntWalk.i64_in _ (by omega);obtain⟨l1,l2,l3,l4,l5,l6,l7,l8⟩:=hln;have hnode:=yH m2 12 0 [] l3 (by omega) (by omega) l6;rw[←hm3]at hnode;rcases hc with hc | hc
 ·subst hc;refine zH Tryz.func34 rfl zBu (rs:=[.cell 8 15 true]) (by kernel_rfl) ?_;unfold zBn;simp[mkS,mkB,zB];refine zN hnum [0,1] (by decide) (by simp[mkS,mkB]) (by simp) ?_;simp[mkS,mkB];refine zR hfit (by simp[zB]) (by simp) ?_;simp[mkS,mkB,hl',hd',w3,w36,hk,wd];refine zR zKq (by simp[zB,jK]) (by simp) ?_;simp[mkS,mkB,wd];refine zN ga [0,1] (by decide) (by simp[mkS,mkB]) (by simp[zB]) ?_;simp[mkS,mkB,zB,wd];refine zN gb [0,1] (by decide) (by simp[mkS,mkB]) (by simp[zB]) ?_;simp[mkS,mkB];refine zN hnode [0,1] (by decide) (by simp[mkS,mkB]) (by simp) ?_;simp[mkS,mkB,zF];refine zN gn [0,1] (by decide) (by simp[mkS,mkB]) (by simp) ?_;simp[mkS,mkB];refine zN gn' [0,1] (by decide) (by simp[mkS,mkB]) (by simp) ?_;simp[mkS,mkB];refine qE (zCI env ⟨⟨0,0,m2.temp⟩,0,jK⟩ (by omega)) (by simp[zA9,jK,Id.zero]) (by simp) ?_;simp[mkS,mkB,zB];refine qE (zCI (env++[⟨⟨0,0,m2.temp⟩,0,jK⟩]) ⟨⟨0,0,m2.temp⟩,1,t⟩ (by simp; omega)) (by simp[zA9]) (by simp) ?_;simp[mkS,mkB,zB,wd];refine yX gc [0,1] (by decide) (by simp[mkS,mkB]) (by simp[zB]) (by decide) (by simp) (by simp[mkS]) ?_;simp[mkS,mkB];exact zG [0,1] 0 (by decide) (by simp) (by simp) (by simp[zF,zJ,zBf,zBh])
 ·by_cases hF0:F=[]
  ·subst hF0;refine zH Tryz.func34 rfl zBu (rs:=[.cell 8 15 true]) (by kernel_rfl) ?_;unfold zBn;simp[mkS,mkB,zB];refine zN hnum [0,1] (by decide) (by simp[mkS,mkB]) (by simp) ?_;simp[mkS,mkB];refine zR hfit (by simp[zB]) (by simp) ?_;simp[mkS,mkB,hl',hd',w3,w36,hk,wd];refine zR zKq (by simp[zB,jK]) (by simp) ?_;simp[mkS,mkB,wd];refine zN ga [0,1] (by decide) (by simp[mkS,mkB]) (by simp[zB]) ?_;simp[mkS,mkB,zB,wd];refine zN gb [0,1] (by decide) (by simp[mkS,mkB]) (by simp[zB]) ?_;simp[mkS,mkB];refine zN hnode [0,1] (by decide) (by simp[mkS,mkB]) (by simp) ?_;simp[mkS,mkB,zF];refine zN gn [0,1] (by decide) (by simp[mkS,mkB]) (by simp) ?_;simp[mkS,mkB];refine zN gn' [0,1] (by decide) (by simp[mkS,mkB]) (by simp) ?_;simp[mkS,mkB];refine qE (zCI env ⟨⟨0,0,m2.temp⟩,0,jK⟩ (by omega)) (by simp[zA9,jK,Id.zero]) (by simp) ?_;simp[mkS,mkB,zB];refine qE (zCI (env++[⟨⟨0,0,m2.temp⟩,0,jK⟩]) ⟨⟨0,0,m2.temp⟩,1,t⟩ (by simp; omega)) (by simp[zA9]) (by simp) ?_;simp[mkS,mkB,zB,wd];refine yX gc [0,1] (by decide) (by simp[mkS,mkB]) (by simp[zB]) (by decide) (by simp) (by simp[mkS]) ?_;simp[mkS,mkB];exact zG [0,1] 0 (by decide) (by simp) (by simp) (by simp[zF,zJ,zBf,zBh])
  ·have hFl:0<F.length:=by cases F with
    | nil=>exact(hF0 rfl).elim
    | cons=>simp
   refine zH Tryz.func34 rfl zBu (rs:=[.cell 8 15 true]) (by kernel_rfl) ?_;unfold zBn;simp[mkS,mkB,zB];refine zN hnum [0,1] (by decide) (by simp[mkS,mkB]) (by simp) ?_;simp[mkS,mkB];refine zR hfit (by simp[zB]) (by simp) ?_;simp[mkS,mkB,hl',hd',hF0,hFl,hc,w3,w36,hk,wd];intro _;refine zR zKq (by simp[zB,jK]) (by simp) ?_;simp[mkS,mkB,wd];refine zN ga [0,1] (by decide) (by simp[mkS,mkB]) (by simp[zB]) ?_;simp[mkS,mkB,zB,wd];refine zN gb [0,1] (by decide) (by simp[mkS,mkB]) (by simp[zB]) ?_;simp[mkS,mkB];refine zN hnode [0,1] (by decide) (by simp[mkS,mkB]) (by simp) ?_;simp[mkS,mkB,zF];refine zN gn [0,1] (by decide) (by simp[mkS,mkB]) (by simp) ?_;simp[mkS,mkB];refine zN gn' [0,1] (by decide) (by simp[mkS,mkB]) (by simp) ?_;simp[mkS,mkB];refine qE (zCI env ⟨⟨0,0,m2.temp⟩,0,jK⟩ (by omega)) (by simp[zA9,jK,Id.zero]) (by simp) ?_;simp[mkS,mkB,zB];refine qE (zCI (env++[⟨⟨0,0,m2.temp⟩,0,jK⟩]) ⟨⟨0,0,m2.temp⟩,1,t⟩ (by simp; omega)) (by simp[zA9]) (by simp) ?_;simp[mkS,mkB,zB,wd];refine yX gc [0,1] (by decide) (by simp[mkS,mkB]) (by simp[zB]) (by decide) (by simp) (by simp[mkS]) ?_;simp[mkS,mkB];exact zG [0,1] 0 (by decide) (by simp) (by simp) (by simp[zF,zJ,zBf,zBh])
theorem zWs {m:Mk}(hl:∀x∈m.l,w64 x=x):0≤atV m.l m.at_ 65536∧atV m.l m.at_ 65536<65536:=yS hl (by omega)
theorem zQZ {env:List Bnd}{t:Typ}{b:Bnd}(h:b∈env.filter fun b=>yL b.typ t):b∈env∧b.typ=t:=by rw[List.mem_filter]at h;exact⟨h.1,(zEq _ _).1 h.2⟩
theorem zMG {hs:List Hd}{R:Nat}{m:Mk}{env:List Bnd}{c depth d:Int}{len r:Nat}(hc:0≤c)(hl:Lim m (6*c+2))(hd:d≤0)(hdd : -1000≤d)
 (hcase:m.left≤0∧0<depth∧d=0∨m.left≤0∧depth≤0∧d=depth∨0<m.left∧depth≤0∧d=depth)(t:Typ)(hr:TyOk hs r t)(hk:zBd hs R c (d-1) (fun r'=>r'<r) len)
 (hx:Cx hs R m)(he:EnvOk hs R m.temp env)(h1:0<env.length)(h2:env.length≤len)(h3:env.length≤1000)(hd1 : -1000≤depth)(hd2:depth≤1000) :
 zA5 hs m.own yU m [.ptr 0 0,.agg (zB t),.sl env.length (zQ env),int depth] env t (6*c+2):=by
 obtain⟨hX0,hX1⟩:=zWs hx.nums;have ha:=zQJ m;obtain⟨l1,l2,l3,l4,l5,l6,l7,l8⟩:=hl;have hl0:Lim {m with at_:=m.at_+1} (6*c+1):=Lim.adv (c:=1) ⟨l1,by omega,l3,by omega,by omega,l6,l7,by omega⟩ ha;have hnum:=zVA m 65536 (by omega) l1 (by omega);have hfit:=zKh env t (by omega);have hFl:(env.filter fun b=>yL b.typ t).length≤1000:=Nat.le_trans (List.length_filter_le _ _) h3;by_cases hF0:(env.filter fun b=>yL b.typ t)=[]
 ·obtain⟨e,m',g1,g2,g3,g4,g5⟩:=zVx hc hl0 ((atV m.l m.at_ 65536).tdiv 3) (by rw[tdN hX0]; omega) (by rw[tdN hX0]; omega) t hr (fun r' h=>h) hk (hx.adv ha) (he.mono ha.temp1) h1 h2 hdd (by omega);exact⟨e,m',qBF hd1 hd2 hX0 hX1 hFl h1 h3 hnum hfit hd hcase hF0 g1,(ha.trans g2).mono (by omega),g3,g4,g5⟩
 ·obtain⟨b,hb,hret⟩:=zSj hd1 hd2 hX0 hX1 hFl h1 h3 hnum hfit hd hcase hF0 l3 (by simp only; omega) (by simp only; omega) l6;obtain⟨hbe,hbt⟩:=zQZ hb;refine⟨_,_,hret,(ha.trans (yR _)).mono (by omega),.var _ _ _ _ _ (by rw[zMe he.nd hbe,hbt]),?_,zGj⟩;simp only[tmps,jX,List.nil_append];exact Seg.one _
theorem zX3 {hs:List Hd}{R:Nat}{m:Mk}{env:List Bnd}{c depth:Int}{len:Nat}(hc:8≤c)(hl:Lim m (8*c))(hleft:0<m.left)(hd0:0<depth)(hR:1≤R)(t:Typ)(ht:TyOk hs R t)
 (hk:zBd hs R c (depth-1) (fun r=>r≤R) len)(hk2:zBd hs R c (depth-2) (fun r=>r≤R) len)
 (hx:Cx hs R m)(he:EnvOk hs R m.temp env)(h1:0<env.length)(h2:env.length+2≤len)(h3:env.length+2≤1000)(hd2:depth≤1000) :
 zA5 hs m.own yU m [.ptr 0 0,.agg (zB t),.sl env.length (zQ env),int depth] env t (8*c):=by
 obtain⟨hX0,hX1⟩:=zWs hx.nums;have ha:=zQJ m;obtain⟨m0,hm0⟩:∃m0:Mk,m0={m with at_:=m.at_+1}:=⟨_,rfl⟩;rw[←hm0]at ha;have hl0:Lim m0 (7*c+7):=Lim.adv (c:=1) (hl.mono (by omega)) ha;have hlm:=hl0;obtain⟨l1,l2,l3,l4,l5,l6,l7,l8⟩:=hlm;have hnum:=zVA m 65536 (by omega) hl.at1 (by have:=hl.at2; omega);rw[←hm0]at hnum;have hfit:=zKh env t (by omega);have hFl:(env.filter fun b=>yL b.typ t).length≤1000:=Nat.le_trans (List.length_filter_le _ _) (by omega);have hleft0:0<m0.left:=by rw[hm0]; exact hleft
 have hx0:=hx.adv ha;have he0:=he.mono ha.temp1;have eown:m0.own=m.own:=ha.own;generalize hF:(env.filter fun b=>yL b.typ t)=F at hfit hFl;generalize atV m.l m.at_ 65536=X at hX0 hX1 hnum;have fin:∀{e:Exp} {m':Mk} {c':Int},Ret Tryz.prog yU [.ptr 0 0,.agg (zB t),.sl env.length (zQ env),int depth] (mkS m) (.agg (zF e)) (mkS m')→Adv m0 m' c'→c'≤7*c+7→WT hs m0.own env e t→Seg m0.temp m'.temp (tmps e)→e.num0 →
  zA5 hs m.own yU m [.ptr 0 0,.agg (zB t),.sl env.length (zQ env),int depth] env t (8*c):=fun {e m' c'} q1 q2 q3 q4 q5 q6 =>
  ⟨e,m',q1,(ha.trans q2).mono (by omega),eown▸q4,q5.mono ha.temp1 (by omega),q6⟩
 by_cases hv:F≠[]∧X.tmod 3=0
 ·obtain⟨b,hb,hret⟩:=zSi (by omega) hd2 hX0 hX1 hFl h1 (by omega) hnum hfit hleft0 hd0 hv.1 hv.2 l3 (by omega) (by omega) l6;rw[←hF]at hb;obtain⟨hbe,hbt⟩:=zQZ hb;refine fin hret (yR _) (by omega) (.var _ _ _ _ _ (by rw[zMe he.nd hbe,hbt])) ?_ zGj;simp only[tmps,jX,List.nil_append];exact Seg.one _
 have hcnd:F=[]∨X.tmod 3≠0:=by
  by_cases h:F=[]
  ·exact .inl h
  ·exact .inr fun h'=>hv ⟨h,h'⟩
 have d36:X.tdiv 36=X / 36:=tdN hX0;have d3:X.tdiv 3=X / 3:=tdN hX0;have d12:(X.tdiv 3).tmod 12=(X.tdiv 3) % 12:=tmN (by omega);obtain⟨y,hy⟩:∃y:Nat,(y:Int)=X.tdiv 36:=⟨(X / 36).toNat,by omega⟩;have hop:=qI7 (by omega) hl0 (X.tdiv 36) (by omega) (by omega) hk hR hx0 he0 h1 (by omega) (by omega) (by omega) hd2 t ht;have viaOp:∀{f:FuncId},zA5 hs m0.own f m0 [.ptr 0 0,.agg (zB t),.sl env.length (zQ env),int (X.tdiv 36),int depth] env t (7*c+7) →
  (∀{e:Exp} {m':Mk},Ret Tryz.prog f [.ptr 0 0,.agg (zB t),.sl env.length (zQ env),int (X.tdiv 36),int depth] (mkS m0) (.agg (zF e)) (mkS m')→Ret Tryz.prog yU [.ptr 0 0,.agg (zB t),.sl env.length (zQ env),int depth] (mkS m) (.agg (zF e)) (mkS m')) →
  zA5 hs m.own yU m [.ptr 0 0,.agg (zB t),.sl env.length (zQ env),int depth] env t (8*c):=fun q w=>by
  obtain⟨e,m',g1,g2,g3,g4,g5⟩:=q;exact fin (w g1) g2 (by omega) g3 g4 g5
 have hif:(X.tdiv 3).tmod 12=0∨(X.tdiv 3).tmod 12=1→zA5 hs m.own yU m [.ptr 0 0,.agg (zB t),.sl env.length (zQ env),int depth] env t (8*c):=fun hk01=>by
  obtain⟨a,m1,a1,a2,a3,a4,a5⟩:=hk m0 0 jT env hx0 (hl0.mono (by omega)) (.bool _) (by omega) he0 h1 (by omega);have hl1:Lim m1 (6*c):=Lim.adv (c:=c) (hl0.mono (by omega)) a2;obtain⟨b,m2,b1,b2,b3,b4,b5⟩:=hk m1 R t env (hx0.adv a2) (hl1.mono (by omega)) ht (Nat.le_refl _) (he0.mono a2.temp1) h1 (by omega);have hl2:Lim m2 (5*c):=Lim.adv (c:=c) (hl1.mono (by omega)) b2;obtain⟨e,m3,c1,c2,c3,c4,c5⟩:=hk m2 R t env ((hx0.adv a2).adv b2) (hl2.mono (by omega)) ht (Nat.le_refl _) ((he0.mono a2.temp1).mono b2.temp1) h1 (by omega);have hl3:Lim m3 1:=Lim.adv (c:=c) (hl2.mono (by omega)) c2;have hret:Ret Tryz.prog yU [.ptr 0 0,.agg (zB t),.sl env.length (zQ env),int depth] (mkS m) (.agg (zF (.mk ⟨0,0,m3.temp⟩ 5 0 Id.zero Typ.zero [a,b,e] []))) (mkS {m3 with temp:=m3.temp+1,left:=m3.left-1}):=by
   rcases hk01 with h | h
   ·exact qBC (by omega) hd2 hX0 hX1 hFl h1 (by omega) hnum hfit hleft0 hd0 hcnd h a1 b1 c1 hl3
   ·exact qBD (by omega) hd2 hX0 hX1 hFl h1 (by omega) hnum hfit hleft0 hd0 hcnd h a1 b1 c1 hl3
  rw[a2.own]at b3;rw[b2.own,a2.own]at c3;refine fin hret (((a2.trans b2).trans c2).trans (yR _)) (by omega) (.ite _ _ _ _ _ _ a3 b3 c3) ?_ (zCt (by simp[a5,b5,c5]));have t1:=a2.temp1;have t2:=b2.temp1;have t3:=c2.temp1;simp only[tmps,jX,List.append_nil];exact(a4.append (b4.append c4 t2 t3) t1 (by omega)).append (Seg.one _) (by omega) (by omega)
 have hlet:(X.tdiv 3).tmod 12=2→zA5 hs m.own yU m [.ptr 0 0,.agg (zB t),.sl env.length (zQ env),int depth] env t (8*c):=fun hk2'=>by
  obtain⟨j,hj,e1⟩:∃j:Nat,j<env.length∧(X.tdiv 36).tmod (env.length:Int)=j:=by
   have q0:0≤X.tdiv 36:=by omega
   have q1:=Int.emod_lt_of_pos (X.tdiv 36) (b:=(env.length:Int)) (by omega);have q2:=Int.emod_nonneg (X.tdiv 36) (b:=(env.length:Int)) (by omega);exact⟨((X.tdiv 36) % env.length).toNat,by omega,by rw[tmN q0]; omega⟩
  have htu:=he.typs env[j] (List.getElem_mem hj);obtain⟨a,m1,a1,a2,a3,a4,a5⟩:=hk m0 R env[j].typ env hx0 (hl0.mono (by omega)) htu (Nat.le_refl _) he0 h1 (by omega);have hl1:Lim m1 (6*c):=Lim.adv (c:=c) (hl0.mono (by omega)) a2;have n2:=yR m1;obtain⟨m2,hm2⟩:∃m2:Mk,m2={m1 with temp:=m1.temp+1,left:=m1.left-1}:=⟨_,rfl⟩;have tm2:m2.temp=m1.temp+1:=by rw[hm2]
  rw[←hm2]at n2;have hl2:Lim m2 (5*c+7):=Lim.adv (c:=1) (hl1.mono (by omega)) n2;obtain⟨s,hs'⟩:=zJ8 m2 hl2.name1 (by have:=hl2.name2; omega);have n3:=zHc m2;obtain⟨m3,hm3⟩:∃m3:Mk,m3={m2 with name:=m2.name+1}:=⟨_,rfl⟩;rw[←hm3]at n3 hs';have hl3:Lim m3 (5*c+6):=Lim.adv (c:=1) (hl2.mono (by omega)) n3;have t1:=a2.temp1;have t2:=n2.temp1;have t3:=n3.temp1;have t3':m3.temp=m2.temp:=by rw[hm3]
  have he3:EnvOk hs R m3.temp (env++[⟨⟨0,0,m1.temp⟩,0,env[j].typ⟩]):=(((he0.mono t1).mono t2).mono t3).snoc _ _ _ htu (fun b hb e=>by have hb':=he0.new b hb (by rw[e]);rw[e]at hb';simp only at hb';omega) (by omega)
  obtain⟨b,m4,b1,b2,b3,b4,b5⟩:=hk m3 R t _ (((hx0.adv a2).adv n2).adv n3) (hl3.mono (by omega)) ht (Nat.le_refl _) he3 (by simp) (by simp; omega);have hret:=qBE (by omega) hd2 hX0 hX1 hFl h1 (by omega) hnum hfit hleft0 hd0 hcnd hk2' hj e1 a1 (hl1.mono (by omega)) hm2 hs' (by simpa using b1);rw[n3.own,n2.own,a2.own]at b3;refine fin hret (((a2.trans n2).trans n3).trans b2) (by omega) (.lets _ _ _ _ _ _ _ (by simp) a3 b3) ?_ (zCt (by simp[a5,b5]));have t4:=b2.temp1;simp only[tmps,jX,List.append_nil];have s1:Seg m1.temp (m1.temp+1) [m1.temp]:=Seg.one _;have s2:=s1.append (b:=m1.temp+1) (tm2▸t3'▸b4) (by omega) (by omega);have s3:=a4.append s2 t1 (by omega);refine s3.perm ?_;rw[List.append_assoc];exact List.Perm.append_left _ List.perm_append_comm
 have hfold:(X.tdiv 3).tmod 12=8→zA5 hs m.own yU m [.ptr 0 0,.agg (zB t),.sl env.length (zQ env),int depth] env t (8*c):=fun hk8=>by
  obtain⟨a,m1,a1,a2,a3,a4,a5⟩:=hk m0 1 (jM jK) env hx0 (hl0.mono (by omega)) (.list _ _ (.int _)) hR he0 h1 (by omega);have hl1:Lim m1 (6*c):=Lim.adv (c:=c) (hl0.mono (by omega)) a2;obtain⟨b,m2,b1,b2,b3,b4,b5⟩:=hk m1 R t env (hx0.adv a2) (hl1.mono (by omega)) ht (Nat.le_refl _) (he0.mono a2.temp1) h1 (by omega);have hl2:Lim m2 (5*c):=Lim.adv (c:=c) (hl1.mono (by omega)) b2;have n3:=yR m2;obtain⟨m3,hm3⟩:∃m3:Mk,m3={m2 with temp:=m2.temp+1,left:=m2.left-1}:=⟨_,rfl⟩;have tm3:m3.temp=m2.temp+1:=by rw[hm3]
  rw[←hm3]at n3;have hl3:Lim m3 (4*c+7):=Lim.adv (c:=1) (hl2.mono (by omega)) n3;obtain⟨s,hs'⟩:=zJ8 m3 hl3.name1 (by have:=hl3.name2; omega);have n4:=zHc m3;obtain⟨m4,hm4⟩:∃m4:Mk,m4={m3 with name:=m3.name+1}:=⟨_,rfl⟩;have tm4:m4.temp=m3.temp:=by rw[hm4]
  rw[←hm4]at n4 hs';have hl4:Lim m4 (4*c+6):=Lim.adv (c:=1) (hl3.mono (by omega)) n4;obtain⟨s',hs''⟩:=zJ8 m4 hl4.name1 (by have:=hl4.name2; omega);have n5:=zHc m4;obtain⟨m5,hm5⟩:∃m5:Mk,m5={m4 with name:=m4.name+1}:=⟨_,rfl⟩;have tm5:m5.temp=m4.temp:=by rw[hm5]
  rw[←hm5]at n5 hs'';have hl5:Lim m5 (4*c+5):=Lim.adv (c:=1) (hl4.mono (by omega)) n5;have t1:=a2.temp1;have t2:=b2.temp1;have hnew:∀b∈env,b.id=⟨0,0,m2.temp⟩→∀n,b.n≠n:=fun b hb e=>by have hb':=he0.new b hb (by rw[e]);rw[e]at hb';simp only at hb';omega
  have he5:EnvOk hs R m5.temp (env++[⟨⟨0,0,m2.temp⟩,0,jK⟩]++[⟨⟨0,0,m2.temp⟩,1,t⟩]):=((he0.mono (show m0.temp≤m5.temp by omega)).snoc _ _ _ (.int _) (fun b hb e=>hnew b hb e _) (by omega)).snoc _ _ _ ht (fun b hb e=>by
   rcases List.mem_append.1 hb with hb | hb
   ·exact hnew b hb e _
   ·rw[List.mem_singleton.1 hb]; simp) (by omega)
  obtain⟨k,m6,c1,c2,c3,c4,c5⟩:=hk m5 R t _ (((((hx0.adv a2).adv b2).adv n3).adv n4).adv n5) (hl5.mono (by omega)) ht (Nat.le_refl _) he5 (by simp) (by simp; omega);have hret:=zX2 (by omega) hd2 hX0 hX1 hFl h1 (by omega) hnum hfit hleft0 hd0 hcnd hk8 a1 b1 (hl2.mono (by omega)) hm3 hs' hs'' (by simpa using c1);rw[a2.own]at b3;rw[n5.own,n4.own,n3.own,b2.own,a2.own]at c3;refine fin hret (((((a2.trans b2).trans n3).trans n4).trans n5).trans c2) (by omega) (.fold _ _ _ _ _ _ _ _ (by simp) a3 b3 c3) ?_ (zCt (by simp[a5,b5,c5]));have t6:=c2.temp1;simp only[tmps,jX,List.append_nil];have s1:Seg m2.temp (m2.temp+1) [m2.temp]:=Seg.one _;have c4':Seg (m2.temp+1) m6.temp (tmps k):=c4.mono (by omega) (by omega);have s2:=s1.append c4' (by omega) (by omega);have s3:=(a4.append b4 t1 t2).append s2 (by omega) (by omega);refine s3.perm ?_;simp only[List.append_assoc];exact List.Perm.append_left _ (List.Perm.append_left _ List.perm_append_comm)
 have hk12:(X.tdiv 3).tmod 12=0∨(X.tdiv 3).tmod 12=1∨(X.tdiv 3).tmod 12=2∨(X.tdiv 3).tmod 12=3∨(X.tdiv 3).tmod 12=4∨(X.tdiv 3).tmod 12=5∨(X.tdiv 3).tmod 12=6∨(X.tdiv 3).tmod 12=7∨(X.tdiv 3).tmod 12=8∨9≤(X.tdiv 3).tmod 12:=by omega
 have hop':=hop;rw[←hy]at hop';rcases hk12 with h | h | h | h | h | h | h | h | h | h
 ·exact hif (.inl h)
 ·exact hif (.inr h)
 ·exact hlet h
 ·have:=zOo (by omega) hl0 y (by omega) hk hk2 hx0 he0 h1 (by omega) (by omega) (by omega) hd2 t ht hop';rw[hy]at this;exact viaOp this fun g=>zSg (by omega) hd2 hX0 hX1 hFl h1 (by omega) hnum hfit hleft0 hd0 hcnd h g
 ·have:=zOo (by omega) hl0 y (by omega) hk hk2 hx0 he0 h1 (by omega) (by omega) (by omega) hd2 t ht hop';rw[hy]at this;exact viaOp this fun g=>zSh (by omega) hd2 hX0 hX1 hFl h1 (by omega) hnum hfit hleft0 hd0 hcnd h g
 ·have:=zUX (by omega) hl0 y (by omega) hk hx0 he0 h1 (by omega) (by omega) (by omega) hd2 t ht hop';rw[hy]at this;exact viaOp this fun g=>zUU (by omega) hd2 hX0 hX1 hFl h1 (by omega) hnum hfit hleft0 hd0 hcnd h g
 ·have:=zQO (by omega) hl0 y hk hx0 he0 h1 (by omega) (by omega) hd2 t hop';rw[hy]at this;exact viaOp this fun g=>zUS (by omega) hd2 hX0 hX1 hFl h1 (by omega) hnum hfit hleft0 hd0 hcnd h g
 ·have:=zQO (by omega) hl0 y hk hx0 he0 h1 (by omega) (by omega) hd2 t hop';rw[hy]at this;exact viaOp this fun g=>zUT (by omega) hd2 hX0 hX1 hFl h1 (by omega) hnum hfit hleft0 hd0 hcnd h g
 ·exact hfold h
 ·exact viaOp hop fun g=>qH5 (by omega) hd2 hX0 hX1 hFl h1 (by omega) hnum hfit hleft0 hd0 hcnd h g
theorem zBd.mono {hs:List Hd}{R:Nat}{c c' depth:Int}{Q Q':Nat→Prop}{len len':Nat}(h:zBd hs R c depth Q len)(hc:c≤c')(hQ:∀r,Q' r→Q r)(hl:len'≤len):zBd hs R c' depth Q' len' :=
 fun m r t env hx hm hr hq he h1 h2=>(h m r t env hx (hm.mono hc) hr (hQ r hq) he h1 (by omega)).mono hc
theorem p8 (k:Nat):(8:Int) ^ (k+1)=8*8 ^ k:=by rw[Int.pow_succ]; omega
theorem zI3:∀k:Nat,1≤(8:Int) ^ k
 | 0=>by simp
 | k+1=>by rw[p8]; have:=zI3 k; omega
theorem zHr (hs:List Hd)(R:Nat):∀(r:Nat) (depth:Int),depth≤0→-900≤depth-r→zBd hs R (8 ^ (r+1)) depth (fun r'=>r'≤r) 1000
 | 0,depth,h0,h1=>fun m r t env hx hl hr hq he h2 h3=>by
  rw[p8]at hl ⊢;have:=zI3 0;refine(zMG (R:=R) (r:=r) (c:=0) (d:=depth) (len:=1000) (by omega) (hl.mono (by omega)) h0 (by omega) ?_ t hr (fun m' r' t' env' _ _ _ hq'=>?_) hx he h2 h3 h3 (by omega) (by omega)).mono (by omega)
  ·rcases Int.lt_or_le 0 m.left with h | h
   ·exact .inr (.inr ⟨h,h0,rfl⟩)
   ·exact .inr (.inl ⟨h,h0,rfl⟩)
  ·have:r'<r:=hq';omega
 | s+1,depth,h0,h1=>fun m r t env hx hl hr hq he h2 h3=>by
  have hp:=p8 (s+1);rw[hp]at hl ⊢;have:=zI3 (s+1);have hk:=zHr hs R s (depth-1) (by omega) (by omega);refine(zMG (R:=R) (r:=r) (c:=8 ^ (s+1)) (d:=depth) (len:=1000) (by omega) (hl.mono (by omega)) h0 (by omega) ?_ t hr (hk.mono (by omega) (fun r' (hr':r'<r)=>by omega) (Nat.le_refl _)) hx he h2 h3 h3 (by omega) (by omega)).mono (by omega);rcases Int.lt_or_le 0 m.left with h | h
  ·exact .inr (.inr ⟨h,h0,rfl⟩)
  ·exact .inr (.inl ⟨h,h0,rfl⟩)
theorem zNa {a b:Nat}(h:a≤b):(8:Int) ^ a≤8 ^ b:=by
 induction h with
 | refl=>exact Int.le_refl _
 | step h ih=>rw[p8]; have:=zI3 a; omega
theorem zKe (hs:List Hd)(R:Nat)(hR:1≤R)(hR2:R≤100):∀n:Nat,n≤100 →
 zBd hs R (8 ^ (n+R+1)) n (fun r=>r≤R) (1000-2*n)∧zBd hs R (8 ^ (n+R+1)) ((n:Int)-1) (fun r=>r≤R) (1000-2*n)
 | 0,_=>by
  constructor
  ·exact(zHr hs R R 0 (by omega) (by omega)).mono (zNa (by omega)) (fun _ h=>h) (by omega)
  ·exact(zHr hs R R _ (by omega) (by omega)).mono (zNa (by omega)) (fun _ h=>h) (by omega)
 | n+1,hn=>by
  obtain⟨i1,i2⟩:=zKe hs R hR hR2 n (by omega);have hp:(8:Int) ^ (n+1+R+1)=8*8 ^ (n+R+1):=by rw[p8,show n+1+R=n+R+1 by omega]
  have hge:=zI3 (n+R);have hp':=p8 (n+R);have e1:(((n+1:Nat)):Int)-1=n:=by omega
  rw[hp];constructor
  ·intro m r t env hx hl hr hq he h1 h2;have ht:=hr.mono hq;rcases Int.lt_or_le 0 m.left with h | h
   ·refine zX3 (R:=R) (len:=1000-2*n) (by omega) hl h (by omega) hR t ht (e1▸i1) ?_ hx he h1 (by omega) (by omega) (by omega);rw[show (((n+1:Nat)):Int)-2=(n:Int)-1 by omega];exact i2
   ·obtain⟨s,hs'⟩:∃s,R=s+1:=⟨R-1,by omega⟩;have hk:=zHr hs R s (0-1) (by omega) (by omega);have q1:(8:Int) ^ (s+1)≤8 ^ (n+R):=zNa (by omega);have q2:=zI3 (s+1);exact(zMG (R:=R) (r:=R) (c:=8 ^ (s+1)) (d:=0) (len:=1000) (by omega) (hl.mono (by omega)) (by omega) (by omega) (.inl ⟨h,by omega,rfl⟩) t ht (hk.mono (by omega) (fun r' (hr':r'<R)=>by omega) (Nat.le_refl _)) hx he h1 (by omega) (by omega) (by omega) (by omega)).mono (by omega)
  ·rw[e1];exact i1.mono (by omega) (fun _ h=>h) (by omega)
end Go.Proofs.YthglhccibdlccaaGreatDoor
