/- append to nil and to a full slice; what every operation does; its soundness. -/
import Derived.Test.YtolkhapmieigcaaGreatDoorX2
import Derived.RangeFuncRecord
import Derived.WideKeyRuns
import Derived.Maps.RangeRun
import Derived.Carry
set_option linter.unusedVariables false
set_option maxHeartbeats 8000000
set_option maxRecDepth 100000
set_option linter.unusedSimpArgs false
namespace Go.Abs
section
variable{P:Program}{H:Mem}{L:wO} {U:St}{w:World}{N:Nat}{env:Env}{a:Act}
theorem jU{α:Type}{l:List α}{x y : α}{i:Nat}(h:(l++[x])[i]?=some y):l[i]?=some y\/(i=l.length/\y=x):=by
 rcases jB2 i l.length with hi|hi
 .rw[jAp hi]at h;exact .inl h
 .rw[jB9 hi]at h;have h0:i-l.length=0:=by
   rcases Nat.eq_zero_or_pos (i-l.length)with h0|h0
   .exact h0
   .rw[jBf (by simp;omega)]at h;cases h
  rw[h0]at h;simp only[jB8,jA3]at h;exact .inr ⟨by omega,h.symm⟩
theorem iC(hs:RelSt H L U w)(e:TypeId)(sz:Nat):Nxt H L w H (L++[(⟨none,0,0,true⟩:LI)]) (U++[AObj.row false e sz 0 []]) w:=by
 have hll:=LLe.append L [⟨none,0,0,true⟩];refine⟨⟨hs.pers,by simp[hs.len],fun i l o hL hU=>?_,fun i j x y b hi hj hx hy=>?_,fun i x b hi hx=>?_⟩,Step.refl _ _ _,hll,fun b ⟨i,x,hi,hx⟩=>?_⟩
 .rcases jU hL with hL'|⟨rfl,rfl⟩
  .have hi:i<L.length:=(jA5.1 hL').1;rw[jAp (by rw[<-hs.len];exact hi)]at hU;exact(hs.obj i l o hL' hU).carry (fun _ _=>rfl) (HLe.refl _) hll (fun _ _ _=>rfl)
  .rw[hs.len]at hU;rw[jB9 (jA _)]at hU;simp only[jBn,jB8,jA3]at hU;subst hU;simp[qB]
 .rcases jU hi with hi'|⟨rfl,rfl⟩
  .rcases jU hj with hj'|⟨rfl,rfl⟩
   .exact hs.inj i j x y b hi' hj' hx hy
   .cases hy
  .cases hx
 .rcases jU hi with hi'|⟨rfl,rfl⟩
  .exact hs.lt i x b hi' hx
  .cases hx
 .rcases jU hi with hi'|⟨rfl,rfl⟩
  .exact .inl ⟨i,x,hi',hx⟩
  .cases hx
theorem zGV{U τ:St}{sz:Nat}{x:A}{r:Nat×wF}(h:fJ U sz x=some r):fJ (U++τ) sz x=some r:=by
 cases x<;>simp only[fJ]at h⊢<;>try exact h
 rename_i l n;split at h<;>try(cases h;done)
 rename_i hds;rw[jAp (jA5.1 hds).1,hds];exact h
variable{i:TypeInfo}{t ty e:TypeId}{z y:Value}{ya:A}{m:Nat}{ys:wF}
theorem zUc(ht:P.underlying t=some (.slice e))(hi:P.info? e=some i)(hz:i.zero=some z)(hzc:aY z.cells.toList=true)(hzs:z.cells.size=i.size)(hsz:0<i.size)
 (hs:RelSt H L U w)(hy:Rel H L ya y)(hye:fJ U i.size ya=some (m,ys))(hyl:ys.length=m*i.size)
 (hm:m<=maxLen)(hby:m*i.bytes<=140737488355328) :
 ∃v' w' H' L',(Builtin.append_ #[t,t] ty #[.slice none 0 0,y]).run P w=.ok v' w'/\Nxt H L w H' L' (U++[AObj.row false e i.size m ys]) w'/\HLe H H'/\Rel H' L' (.row U.length m) v':=by
 have hn:=iC hs e i.size;have hU : (U++[AObj.row false e i.size 0 []])[U.length]?=some (.row false e i.size 0 []):=by simp
 have hx:Rel H (L++[(⟨none,0,0,true⟩:LI)]) (.row U.length 0) (.slice none 0 0):=by simp only[Rel];exact⟨rfl,⟨none,0,0,true⟩,by rw[<-hs.len];simp,rfl,jA _,fun _=>rfl⟩
 obtain⟨v',w',H',L',h1,h2,h3,h4⟩:=zNL (ty:=ty) ht hi hz hzc hzs hsz hn.st hU hx (Rel.mono (HLe.refl _) (LLe.append _ _) _ hy) (zGV hye) hyl (by simpa using hm) (by simpa using hby);refine⟨v',w',H',L',h1,?_,h3,by simpa using h4⟩;have:=hn.trans h2;have he:(U++[AObj.row false e i.size 0 []]).set U.length (AObj.row false e i.size (0+m) ([]++ys)) = U++[AObj.row false e i.size m ys]:=by simp
 rw[he]at this;exact this
variable{cs:wF}
theorem zR1(ht:P.underlying t=some (.slice e))(hi:P.info? e=some i)(hz:i.zero=some z)(hzs:z.cells.size=i.size)(hsz:0<i.size)
 (hs:RelSt H L U w){n:Nat}{s:Value}(hx:Rel H L (.fsl n cs) s)(hcl:cs.length=n*i.size)(hy:Rel H L ya y)(hye:fJ U i.size ya=some (m,ys))(hyl:ys.length=m*i.size)
 (hm0:m≠0)(hm:n+m<=maxLen)(hby:(n+m)*i.bytes<=140737488355328) :
 ∃v' w' H' L',(Builtin.append_ #[t,t] ty #[s,y]).run P w=.ok v' w'/\Nxt H L w H' L' (U++[AObj.row false e i.size (n+m) (cs++ys)]) w'/\HLe H H'/\Rel H' L' (.row U.length (n+m)) v':=by
 obtain⟨ad,c,rfl,hels⟩:=x5 hs hy hye hyl hsz;rcases hels with h0|⟨yb,yo,us,rfl,g1,g2,g3,g4⟩
 .exact(hm0 h0).elim
 have hn:=iC hs e i.size;have hsm:n+m<=9223372036854775807:=by simp only[maxLen]at hm;omega
 have e1:(L++[(⟨none,0,0,true⟩:LI)])[U.length]?=some (⟨none,0,0,true⟩:LI):=by rw[<-hs.len];simp
 have fresh:∀(olds:wM) (old:Nat),qE H L cs olds->(∀u∈olds,one u)->old<n+m ->
  (Builtin.append_ #[t,t] ty #[s,.slice (some ⟨yb,yo,none⟩) m c]).run P w=.ok (.slice (some ⟨w.heap.size,0,none⟩) (n+m) (grownCap w (n+m) old e))
   (w.drew.alloc (.cells (olds.toArray++us.toArray++Builtin.zeroCells z.cells (grownCap w (n+m) old e-(n+m))) e)) ->
  ∃v' w' H' L',(Builtin.append_ #[t,t] ty #[s,.slice (some ⟨yb,yo,none⟩) m c]).run P w=.ok v' w'/\Nxt H L w H' L' (U++[AObj.row false e i.size (n+m) (cs++ys)]) w'/\HLe H H'/\Rel H' L' (.row U.length (n+m)) v':=by
  intro olds old ho1 ho2 ho4 hrun;have ho3:olds.length=n*i.size:=by rw[ho1.length,hcl]
  have hge:=grownCap_ge w (n+m) old e;have hcm:grownCap w (n+m) old e<=maxLen:=grownCap_le_maxLen w (n+m) old e hm;have hpl:(olds++us).length=(n+m)*i.size:=by rw[jA4,ho3,g2,jB7]
  have hcur:(olds.toArray++us.toArray++Builtin.zeroCells z.cells (grownCap w (n+m) old e-(n+m))).toList.take ((n+m)*i.size)=olds++us:=by simp only[Array.toList_append,jAq];rw[<-jAq,<-hpl];exact List.take_left
  have hheap:(w.drew.alloc (.cells (olds.toArray++us.toArray++Builtin.zeroCells z.cells (grownCap w (n+m) old e-(n+m))) e)).heap[w.heap.size]?=some (.cells (olds.toArray++us.toArray++Builtin.zeroCells z.cells (grownCap w (n+m) old e-(n+m))) e (0,0)):=heap_alloc_new w.drew _;have hnone:∀o,H w.heap.size o=none:=fun o=>by
   cases hH:H w.heap.size o with
   |none=>rfl
   |some v=>have:=hs.h_lt hH;omega
  have hll:=tN (li':=(⟨some w.heap.size,grownCap w (n+m) old e,n+m,true⟩:LI)) e1 rfl rfl (by simp only;omega);have hnx:Nxt H (L++[(⟨none,0,0,true⟩:LI)]) w H ((L++[(⟨none,0,0,true⟩:LI)]).set U.length (⟨some w.heap.size,grownCap w (n+m) old e,n+m,true⟩:LI))
   ((U++[AObj.row false e i.size 0 []]).set U.length (AObj.row false e i.size (n+m) (cs++ys)))
   (w.drew.alloc (.cells (olds.toArray++us.toArray++Builtin.zeroCells z.cells (grownCap w (n+m) old e-(n+m))) e)):=by
   refine zCm hn.st e1 rfl rfl (by simp only;omega) rfl (.inr (jA _)) (by simp) rfl rfl rfl (jCf _) (fun d=>by simp) (by simp) (fun k hk _=>heap_alloc_old w.drew _ (h:=hk)) (HLe.refl _) (fun b' o' v hv'=>.inl hv')
    (fun o' v hv'=>by rw[hnone]at hv';cases hv') ?_
   simp only[qB];refine⟨trivial,trivial,by rw[jA4,hcl,hyl,jB7],.inr ⟨w.heap.size,_,rfl,hheap,hge,hcm,?_,?_,?_,hnone⟩⟩
   .simp only[Array.size_append,jC7,size_zeroCells,hzs,ho3,g2,<-jB7]
    congr 1
    omega
   .rw[hcur];exact qE.mono (HLe.refl _) ((LLe.append _ _).trans hll) _ (ho1.append g1)
   .rw[hcur];intro u hu;rcases jA6.1 hu with hu|hu
    .exact ho2 u hu
    .exact g3 u hu
  have he:(U++[AObj.row false e i.size 0 []]).set U.length (AObj.row false e i.size (n+m) (cs++ys)) = U++[AObj.row false e i.size (n+m) (cs++ys)]:=by simp
  rw[he]at hnx;refine⟨_,_,_,_,hrun,hn.trans hnx,HLe.refl _,?_⟩;simp only[Rel];exact⟨rfl,_,jAo (jA5.1 e1).1,rfl,jA _,fun _=>rfl⟩
 simp only[Rel]at hx;obtain⟨sa,rfl,hnm,hcs⟩:=hx;rcases hcs with ⟨rfl,rfl⟩|⟨b,o,vs,rfl,k1,k2,k3⟩
 .cases sa with
  |none =>
   have hr:=run_append_nil (P:=P) w t ty e i z ht hi hz ⟨yb,yo,none⟩ m c us g2 g4 (by omega) (by omega) (by simp only[jB1]at hby;omega);refine fresh [] 0 jR (by simp) (by omega) ?_
   simpa using hr
  |some ba =>
   have hr:=run_append_grow (P:=P) w t ty e i z ht hi hz ba 0 0 [] (by simp) (by simp) ⟨yb,yo,none⟩ m c us g2 g4 (by omega) (by omega) (growslice_fits (by omega) hby);exact fresh [] 0 jR (by simp) (by omega) hr
 .have hr:=run_append_grow (P:=P) w t ty e i z ht hi hz ⟨b,o,none⟩ n n vs (by rw[k1.length,hcl]) (fun j u hu=>by rw[Addr.add_lit];exact hs.pers _ _ _ (k3 j u hu)) ⟨yb,yo,none⟩ m c us g2 g4 (by omega) (by omega) (growslice_fits (by omega) hby);exact fresh vs n k1 k2 (by omega) hr
theorem zUd(ht:P.underlying t=some (.slice e))(hi:P.info? e=some i)(hz:i.zero=some z)(hzs:z.cells.size=i.size)(hsz:0<i.size)
 (hs:RelSt H L U w){l n o k:Nat}{s:Value}(hU:U[l]?=some (.row false e i.size n cs))(hx:Rel H L (.win l n o k i.size) s)(hok:o+k*i.size=n*i.size)
 (hy:Rel H L ya y)(hye:fJ U i.size ya=some (m,ys))(hyl:ys.length=m*i.size)(hm0:m≠0)(hm:n+m<=maxLen)(hby:(n+m)*i.bytes<=140737488355328) :
 (∃v' w' L',(Builtin.append_ #[t,t] ty #[s,y]).run P w=.ok v' w'/\Nxt H L w H L' (U.set l (.row false e i.size (n+m) (cs++ys))) w'/\Rel H L' (.win l (n+m) o (k+m) i.size) v') \/
 ∃v' w' L',(Builtin.append_ #[t,t] ty #[s,y]).run P w=.ok v' w'/\Nxt H L w H L' (U++[AObj.row false e i.size (k+m) (cs.drop o++ys)]) w'/\Rel H L' (.win U.length (k+m) 0 (k+m) i.size) v':=by
 obtain⟨ad',c,rfl,hels⟩:=x5 hs hy hye hyl hsz;rcases hels with h0|⟨yb,yo,us,rfl,g1,g2,g3,g4⟩
 .exact(hm0 h0).elim
 simp only[Rel]at hx;obtain⟨hs1,li,e1,e2,e3,hv⟩:=hx;have hob:=hs.obj l li _ e1 hU;simp only[qB]at hob;obtain⟨_,hln,hcl,hob⟩:=hob;obtain⟨g0,ad,cap,rfl,k1,k2,k3⟩:=hv hln.symm;have hlU : l < U.length:=(jA5.1 hU).1;have hlL:l<L.length:=(jA5.1 e1).1;have hby2:(k+m)*i.bytes<=140737488355328:=jAz (jBl _ (by omega)) hby;have fresh:∀(olds:wM) (old:Nat),qE H L (cs.drop o) olds->(∀u∈olds,one u)->old<k+m ->
  (Builtin.append_ #[t,t] ty #[.slice ad k cap,.slice (some ⟨yb,yo,none⟩) m c]).run P w=.ok (.slice (some ⟨w.heap.size,0,none⟩) (k+m) (grownCap w (k+m) old e))
   (w.drew.alloc (.cells (olds.toArray++us.toArray++Builtin.zeroCells z.cells (grownCap w (k+m) old e-(k+m))) e)) ->
  ∃v' w' L',(Builtin.append_ #[t,t] ty #[.slice ad k cap,.slice (some ⟨yb,yo,none⟩) m c]).run P w=.ok v' w'/\Nxt H L w H L' (U++[AObj.row false e i.size (k+m) (cs.drop o++ys)]) w'/\Rel H L' (.win U.length (k+m) 0 (k+m) i.size) v':=by
  intro olds old ho1 ho2 ho4 hrun;have ho3:olds.length=k*i.size:=by rw[ho1.length,jCk,hcl];omega
  have hge:=grownCap_ge w (k+m) old e;have hcm:grownCap w (k+m) old e<=maxLen:=grownCap_le_maxLen w (k+m) old e (by omega);have hpl:(olds++us).length=(k+m)*i.size:=by rw[jA4,ho3,g2,jB7]
  have hcur:(olds.toArray++us.toArray++Builtin.zeroCells z.cells (grownCap w (k+m) old e-(k+m))).toList.take ((k+m)*i.size)=olds++us:=by simp only[Array.toList_append,jAq];rw[<-jAq,<-hpl];exact List.take_left
  have hnone:∀o,H w.heap.size o=none:=fun o=>by
   cases hH:H w.heap.size o with
   |none=>rfl
   |some v=>have:=hs.h_lt hH;omega
  have hn:=iC hs e i.size;have e1:(L++[(⟨none,0,0,true⟩:LI)])[U.length]?=some (⟨none,0,0,true⟩:LI):=by rw[<-hs.len];simp
  have hheap:(w.drew.alloc (.cells (olds.toArray++us.toArray++Builtin.zeroCells z.cells (grownCap w (k+m) old e-(k+m))) e)).heap[w.heap.size]?=some (.cells (olds.toArray++us.toArray++Builtin.zeroCells z.cells (grownCap w (k+m) old e-(k+m))) e (0,0)):=heap_alloc_new w.drew _;have hll:=tN (li':=(⟨some w.heap.size,grownCap w (k+m) old e,k+m,true⟩:LI)) e1 rfl rfl (by simp only;omega);have hnx:Nxt H (L++[(⟨none,0,0,true⟩:LI)]) w H ((L++[(⟨none,0,0,true⟩:LI)]).set U.length (⟨some w.heap.size,grownCap w (k+m) old e,k+m,true⟩:LI))
   ((U++[AObj.row false e i.size 0 []]).set U.length (AObj.row false e i.size (k+m) (cs.drop o++ys)))
   (w.drew.alloc (.cells (olds.toArray++us.toArray++Builtin.zeroCells z.cells (grownCap w (k+m) old e-(k+m))) e)):=by
   refine zCm hn.st e1 rfl rfl (by simp only;omega) rfl (.inr (jA _)) (by simp) rfl rfl rfl (jCf _) (fun d=>by simp) (by simp) (fun k hk _=>heap_alloc_old w.drew _ (h:=hk)) (HLe.refl _) (fun b' o' v hv'=>.inl hv')
    (fun o' v hv'=>by rw[hnone]at hv';cases hv') ?_
   simp only[qB];refine⟨trivial,trivial,by rw[jA4,hyl,jCk,hcl,jB7];omega,.inr ⟨w.heap.size,_,rfl,hheap,hge,hcm,?_,?_,?_,hnone⟩⟩
   .simp only[Array.size_append,jC7,size_zeroCells,hzs,ho3,g2,<-jB7]
    congr 1
    omega
   .rw[hcur];exact qE.mono (HLe.refl _) ((LLe.append _ _).trans hll) _ (ho1.append g1)
   .rw[hcur];intro u hu;rcases jA6.1 hu with hu|hu
    .exact ho2 u hu
    .exact g3 u hu
  have he:(U++[AObj.row false e i.size 0 []]).set U.length (AObj.row false e i.size (k+m) (cs.drop o++ys)) = U++[AObj.row false e i.size (k+m) (cs.drop o++ys)]:=by simp
  rw[he]at hnx;refine⟨_,_,_,hrun,hn.trans hnx,?_⟩;simp only[Rel];exact⟨rfl,_,jAo (jA5.1 e1).1,rfl,jA _,fun _=>⟨jA _,_,_,rfl,hge,hcm,.inr ⟨_,rfl,rfl,by simp⟩⟩⟩
 rcases k3 with hc0|⟨b,hb,rfl,hcap⟩
 .clear hob;have hk0:k=0:=by omega
  subst hk0 hc0;have hdr:cs.drop o=[]:=jD1 (by rw[hcl];omega);right;cases ad with
  |none =>
   have hr:=run_append_nil (P:=P) w t ty e i z ht hi hz ⟨yb,yo,none⟩ m c us g2 g4 (by omega) (by simp only[maxLen]at hm;omega) (by simp only[jB1]at hby2;omega);refine fresh [] 0 (by rw[hdr];exact jR) (by simp) (by omega) ?_
   simpa using hr
  |some ba =>
   have hr:=run_append_grow (P:=P) w t ty e i z ht hi hz ba 0 0 [] (by simp) (by simp) ⟨yb,yo,none⟩ m c us g2 g4 (by omega) (by simp only[maxLen]at hm;omega) (growslice_fits (by omega) hby2);exact fresh [] 0 (by rw[hdr];exact jR) (by simp) (by omega) hr
 .rcases hob with ⟨h0,_⟩|⟨b',cur,hb',hh,q1,q2,q3,q4,q5,q6⟩
  .rw[hb]at h0;cases h0
  rw[hb]at hb';cases hb';have hncur:n*i.size<=cur.size:=by rw[q3];exact jBl _ q1
  by_cases hroom:k+m<=cap
  .left;have hnm:n+m<=li.cap:=by
    have h1:(k+m)*i.size<=cap*i.size:=jBl _ hroom;have h2:(n+m)*i.size<=li.cap*i.size:=by rw[jB7]at h1 ⊢;omega
    exact Nat.le_of_mul_le_mul_right h2 hsz
   have hfit:o+k*i.size+us.length<=cur.size:=by rw[g2,q3,hok,<-jB7];exact jBl _ hnm
   have hf:=run_firstCells_some (P:=P) w i.size m ⟨yb,yo,none⟩ m c us g2 g4;have hst:=run_storeCells_at P b (o+k*i.size) e us 0 cur w hh (by simpa using hfit) g3;simp only[jCj]at hst;have hrun:(Builtin.append_ #[t,t] ty #[.slice (some ⟨b,o,none⟩) k cap,.slice (some ⟨yb,yo,none⟩) m c]).run P w =
    .ok (.slice (some ⟨b,o,none⟩) (k+m) cap) (w.setRow b (cur.toList.take (o+k*i.size)++us++cur.toList.drop (o+k*i.size+us.length)).toArray):=by
    simp[Builtin.append_,run_underlying ht,sizeOf,typeInfo,hi,Builtin.lenOf,hroom,hf,Addr.add_lit,hst]
   rw[hok]at hrun hfit;have hpl:(cur.toList.take (n*i.size)++us).length=(n+m)*i.size:=by rw[jA4,g2,jB7,jAv,jB5,jAx (by omega)]
   have hcur:(cur.toList.take (n*i.size)++us++cur.toList.drop (n*i.size+us.length)).take ((n+m)*i.size)=cur.toList.take (n*i.size)++us:=by rw[<-hpl];exact List.take_left
   have hheap:=setRow_heap w b cur (cur.toList.take (n*i.size)++us++cur.toList.drop (n*i.size+us.length)).toArray e (0,0) hh;have hnx:Nxt H L w H (L.set l ⟨some b,li.cap,n+m,true⟩) (U.set l (.row false e i.size (n+m) (cs++ys)))
    (w.setRow b (cur.toList.take (n*i.size)++us++cur.toList.drop (n*i.size+us.length)).toArray):=by
    refine zCm hs e1 e2 rfl (by simp only;omega) rfl (.inl hb) (by simp;exact hs.lt l li b e1 hb) rfl rfl rfl (jA _) (fun d=>by rw[hh];simp) (by simp) (fun k _ hk=>setRow_other w b k _ hk) (HLe.refl _) (fun b' o' v hv'=>.inl hv') (fun o' v hv'=>by rw[q6]at hv';cases hv') ?_;have hll:=tN (li':=(⟨some b,li.cap,n+m,true⟩:LI)) e1 e2 rfl (by simp only;omega);simp only[qB];refine⟨trivial,trivial,by rw[jA4,hcl,hyl,jB7],.inr ⟨b,_,rfl,hheap,hnm,q2,?_,?_,?_,q6⟩⟩
    .simp only[jC7,jA4,jAv,jCk,jB5];omega
    .rw[hcur];exact qE.mono (HLe.refl _) hll _ (q4.append g1)
    .rw[hcur];intro u hu;rcases jA6.1 hu with hu|hu
     .exact q5 u hu
     .exact g3 u hu
   refine⟨_,_,_,hrun,hnx,?_⟩;simp only[Rel];exact⟨rfl,_,jAo hlL,rfl,jA _,fun _=>⟨by omega,_,_,rfl,hroom,k2,.inr ⟨b,rfl,rfl,hcap⟩⟩⟩
  .right;have hlen:((cur.toList.take (n*i.size)).drop o).length=k*i.size:=by rw[jCk,jAv,jB5,jAx hncur];omega
   have hr:=run_append_grow (P:=P) w t ty e i z ht hi hz ⟨b,o,none⟩ k cap ((cur.toList.take (n*i.size)).drop o) hlen
    (fun j u hu=>by
     rw[Addr.add_lit,cell_of_row w b _ cur e (0,0) hh];rw[jCt,jBg]at hu;split at hu
     .simpa using hu
     .cases hu) ⟨yb,yo,none⟩ m c us g2 g4 (by omega) (by simp only[maxLen]at hm;omega) (growslice_fits (by omega) hby2)
   exact fresh _ cap (q4.drop o) (fun u hu=>q5 u (jC1 hu)) (by omega) hr
theorem zO1(hs:RelSt H L U w){l b n h sz:Nat}{li:LI}(hL:L[l]?=some li)(hr:li.isRow=true)(hb:li.block=some b)(hU:U[l]?=some (.row false e sz n cs))(hh:h<=n) :
 Nxt H L w H (L.set l ⟨none,0,li.len+1,true⟩++[⟨some b,li.cap,h,true⟩]) (U.set l .dead++[AObj.row false e sz h (cs.take (h*sz))]) w:=by
 have hll:=(tN (li':=(⟨none,0,li.len+1,true⟩:LI)) hL hr rfl (Nat.lt_succ_self _)).trans (LLe.append _ [⟨some b,li.cap,h,true⟩]);have hl:l<L.length:=(jA5.1 hL).1;have get:∀(i:Nat) x,(L.set l ⟨none,0,li.len+1,true⟩++[(⟨some b,li.cap,h,true⟩:LI)])[i]?=some x->(i=l/\x.block=none)\/(i≠l/\L[i]?=some x)\/(i=L.length/\x=⟨some b,li.cap,h,true⟩):=by
  intro i x hx;rcases jU hx with hx|⟨rfl,rfl⟩
  .by_cases hi:i=l
   .subst hi;rw[jAo hl]at hx;cases hx;exact .inl ⟨rfl,rfl⟩
   .rw[jAh (Ne.symm hi)]at hx;exact .inr (.inl ⟨hi,hx⟩)
  .exact .inr (.inr ⟨by simp,rfl⟩)
 have hob:=hs.obj l li _ hL hU;simp only[qB]at hob;obtain⟨_,hlen,hcl,hob⟩:=hob;refine⟨⟨hs.pers,by simp[hs.len],fun i x o hx ho=>?_,fun i j x y b' hi hj hx hy=>?_,fun i x b' hi hx=>?_⟩,Step.refl _ _ _,hll,fun b' ⟨i,x,hi,hx⟩=>?_⟩
 .rcases get i x hx with ⟨rfl,_⟩|⟨hi,hx'⟩|⟨rfl,rfl⟩
  .rw[jAp (by rw[jD,<-hs.len];exact hl),jAo (by rw[<-hs.len];exact hl)]at ho;cases ho;trivial
  .rw[jAp (by rw[jD,<-hs.len];exact(jA5.1 hx').1),jAh (Ne.symm hi)]at ho;exact(hs.obj i x o hx' ho).carry (fun _ _=>rfl) (HLe.refl _) hll (fun _ _ _=>rfl)
  .rw[hs.len,jB9 (by simp)]at ho;simp only[jD,jBn,jB8,jA3]at ho;subst ho;simp only[qB];have hmul:h*sz<=n*sz:=jBl _ hh;refine⟨trivial,trivial,by rw[jAv,hcl,jAx hmul],.inr ?_⟩;rcases hob with ⟨h0,_⟩|⟨b',cur,hb',k1,k2,k3,k4,k5,k6,k7⟩
   .rw[hb]at h0;cases h0
   .rw[hb]at hb';cases hb';have ht:cur.toList.take (h*sz)=(cur.toList.take (n*sz)).take (h*sz):=by rw[List.take_take,jAx hmul]
    refine⟨b,cur,rfl,k1,by omega,k3,k4,by rw[ht];exact qE.mono (HLe.refl _) hll _ (k5.take _),fun u hu=>k6 u ?_,k7⟩;rw[ht]at hu;exact jBu hu
 .rcases get i x hi with ⟨_,h0⟩|⟨hi1,hi'⟩|⟨rfl,rfl⟩
  .rw[h0]at hx;cases hx
  .rcases get j y hj with ⟨_,h0⟩|⟨hj1,hj'⟩|⟨rfl,rfl⟩
   .rw[h0]at hy;cases hy
   .exact hs.inj i j x y b' hi' hj' hx hy
   .cases hy;exact(hi1 (hs.inj i l x li _ hi' hL hx hb)).elim
  .cases hx;rcases get j y hj with ⟨_,h0⟩|⟨hj1,hj'⟩|⟨rfl,rfl⟩
   .rw[h0]at hy;cases hy
   .exact(hj1 (hs.inj j l y li _ hj' hL hy hb)).elim
   .rfl
 .rcases get i x hi with ⟨_,h0⟩|⟨hi1,hi'⟩|⟨rfl,rfl⟩
  .rw[h0]at hx;cases hx
  .exact hs.lt i x b' hi' hx
  .cases hx;exact hs.lt l li _ hL hb
 .rcases get i x hi with ⟨_,h0⟩|⟨hi1,hi'⟩|⟨rfl,rfl⟩
  .rw[h0]at hx;cases hx
  .exact .inl ⟨i,x,hi',hx⟩
  .cases hx;exact .inl ⟨l,li,hL,hb⟩
inductive Out where
 |ret (r:A)
 |pan (v:Value)
def zAC(H:Mem)(L:wO):Out->Ending->Prop
 | .ret r,e=>∃v,e=.returned v/\Rel H L r v
 | .pan v,e=>e=.panicked [{v,recovered:=false}]
def aK(P:Program)(f:FuncId)(args:wF) (U:St)(Q:Out->St->Prop):Prop :=
 ∀(H:Mem) (L:wO) (w:World) (vs:wM),RelSt H L U w->qE H L args vs ->
  Calls P f vs.toArray w fun e w'=>∃o U' H' L',zAC H' L' o e/\Nxt H L w H' L' U' w'/\Q o U'
def lG(P:Program)(b:Nat)(args:wF) (U:St)(Q:Out->St->Prop):Prop :=
 ∀(H:Mem) (L:wO) (w:World) (vs:wM),RelSt H L U w->qE H L args vs ->
  ∃f tmps x y,(Instr.yield b vs.toArray).run P w=.ok (.round b f tmps x y) w/\RoundIn Fence.wide 0 P b f tmps x y w fun e w'=>∃o U' H' L',zAC H' L' o e/\Nxt H L w H' L' U' w'/\Q o U'
def Wr(r:wD):Fence:={Fence.wide with round:=r}
def jQ(o:Option (Prop×A))(J:A->Prop):Prop:=match o with
 |some (p,r)=>p/\J r
 |none=>False
def outK(d:wD)(env:Env)(K:wK)(Qp:Value->wK):Out->St->Prop
 | .ret r,U'=>K (env.put d r) U'
 | .pan v,U'=>Qp v env U'
def uJ(t:Bool)(A B:wK)(env:Env) (U:St):Prop:=(t=true->A env U)/\(t=false->B env U)
def zGx(d:wD)(K:wK)(env:Env) (U:St):Prop:=K (env.put d (.lit undef)) U
noncomputable def wpO(P:Program) (Qp:Value->wK) (K:wK):KOp->wK
 | .alloc d zs,env,U=>K (env.put d (.ptr U.length 0)) (U++[.box (zs.map jP)])
 | .box d x,env,U=>match cellsOf (ev env x)with
  |some cs=>K (env.put d (.ptr U.length 0)) (U++[.box cs])
  |none=>False
 | .bslice d _ _ n zero parts,env,U=>match fO (zero.map jP) (parts.map fun(o,s,x)=>(o,s,ev env x))with
  |some cs=>K (env.put d (.fsl n cs)) U
  |none=>False
 | .isz d ng x,env,U=>match ev env x with
  | .nil=>K (env.put d (.lit (.bool !ng))) U
  | .sl n _=>K (env.put d (.lit (.bool ng))) U/\(n=0->K (env.put d (.lit (.bool !ng))) U)
  | .row l n=>(match U[l]? with
   |some (.row _ _ _ m _)=>n=m/\K (env.put d (.lit (.bool ng))) U/\(n=0->K (env.put d (.lit (.bool !ng))) U)
   |_=>False)
  |_=>False
 | .apq d e sz bytes x y,env,U=>match fJ U sz (ev env y),ev env x with
  |some (m,ys),.win l n o k c=>(match U[l]? with
   |some (.row false e' s n' cs)=>(ys.length=m*sz/\m≠0/\n=n'/\e'=e/\s=sz/\c=sz/\o+k*sz=n*sz/\n+m<=maxLen/\(n+m)*bytes<=140737488355328) /\
    K (env.put d (.win l (n+m) o (k+m) sz)) (U.set l (.row false e sz (n+m) (cs++ys)))/\K (env.put d (.win U.length (k+m) 0 (k+m) sz)) (U++[.row false e sz (k+m) (cs.drop o++ys)])
   |_=>False)
  |_,_=>False
 | .shr d x sz hx,env,U=>match ev env x,ev env hx with
  | .row l n,.lit (.int _ h)=>(match U[l]? with
   |some (.row false e s m cs)=>(n=m/\s=sz/\0<=h/\h<=n/\n≠0)/\K (env.put d (.row U.length h.toNat)) (U.set l .dead++[.row false e sz h.toNat (cs.take (h.toNat*sz))])
   |_=>False)
  |_,_=>False
 | .brow d e sz n zero parts,env,U=>match fO (zero.map jP) (parts.map fun(o,s,x)=>(o,s,ev env x))with
  |some cs=>K (env.put d (.row U.length n)) (U++[.row false e sz n cs])
  |none=>False
 | .st d x v n,env,U=>match cellsOf (ev env v)with
  |some cs=>if cs.length=n then (match stA U cs (ev env x)with
   |some U'=>K (env.put d (.lit undef)) U'
   |none=>False)else False
  |none=>False
 | .app d e sz bytes x y,env,U=>match fJ U sz (ev env y)with
  |some (m,ys)=>ys.length=m*sz/\(match ev env x with
   | .nil=>(m<=maxLen/\m*bytes<=140737488355328)/\K (env.put d (.row U.length m)) (U++[.row false e sz m ys])
   | .row l n=>(match U[l]? with
    |some (.row fz e' s n' cs)=>if n=n'/\e'=e/\s=sz then (n+m<=maxLen/\(n+m)*bytes<=140737488355328)/\K (env.put d (.row l (n+m))) (U.set l (.row fz e sz (n+m) (cs++ys)))else False
    |_=>False)
   | .fsl n cs=>cs.length=n*sz/\(m=0->K (env.put d (.fsl n cs)) U)/\(m≠0->(n+m<=maxLen/\(n+m)*bytes<=140737488355328)/\K (env.put d (.row U.length (n+m))) (U++[.row false e sz (n+m) (cs++ys)]))
   |_=>False)
  |none=>False
 | .len d false x,env,U=>match ev env x with
  | .sl n _=>n<=maxLen->K (env.put d (.lit (.int .i64 n))) U
  | .fsl n _=>n<=maxLen->K (env.put d (.lit (.int .i64 n))) U
  |_=>jQ (zW env U (.len d false x)) fun r=>K (env.put d r) U
 | .call d f args,env,U=>match ev env f with
  | .clo g first cap=>zA P g=true/\aK P g (first++args.map (ev env)++cap) U (outK d env K Qp)
  | .lit (.func (.yield b) ⟨[]⟩ ⟨[]⟩)=>lG P b (args.map (ev env)) U (outK d env K Qp)
  |_=>False
 | .alr d q zs,env,U=>(match U[q]? with
  |some .rsv=>K (env.put d (.ptr q 0)) (U.set q (.box (zs.map jP)))
  |_=>False)
 | .mop d m xs,env,U=>eL m (xs.map (ev env)) (fun r U'=>K (env.put d r) U') U
 | .pan _ x,env,U=>(match ev env x with
  | .lit (.iface t v)=>Qp (.iface t v) env U
  |_=>False)
 |k,env,U=>jQ (zW env U k) fun r=>K (env.put k.dst r) U
end
end Go.Abs
namespace Go.Abs
def zEz(P:Program)(t:TypeId)(xs:wC):Value:=match P.underlying t with
 |some (.struct _)=>.agg (xs.map iW).toArray
 |_=>iW (xs.headD 0)
section
variable{P:Program}{w:World}
theorem zGc{t:TypeId}{d n:Nat}(h:mS P d t=some n)(hi:(P.info? t).map (·.size)=some n){pre xs:wC}(hx:n<=xs.length) :
 (part t ((pre++xs).map iW).toArray pre.length).run P w=.ok (zEz P t (xs.take n)) w:=by
 cases d with
 |zero=>simp[mS]at h
 |succ d =>
 unfold mS at h;unfold part zEz;split at h
 .rename_i hu;cases h;rw[Sem.run_bind,oG hu,Result.andThen_ok,hu];simp only[zB5,jAg,if_false];cases xs with
  |nil=>simp at hx
  |cons x xs=>simp
 .rename_i fs hu;obtain⟨i,hii,hsz⟩:=jAf.1 hi;rw[Sem.run_bind,oG hu,Result.andThen_ok,hu];simp only[zB5,if_true,Sem.run_bind,yM hii,Result.andThen_ok,hsz,Sem.run_pure]
  congr 2
  apply jC9;simp[Array.toList_extract,List.extract,List.drop_append,List.map_take]
 .cases h
theorem eqI:∀(d D n:Nat) (t:TypeId) (xs ys:wC),d<=D->mS P d t=some n->xs.length=n->ys.length=n->(Op.equalIn D t (zEz P t xs) (zEz P t ys)).run P w=.ok (decide (xs=ys)) w
 | 0,_,_,_,_,_,_,h,_,_=>by simp[mS]at h
 |d+1,0,_,_,_,_,hD,_,_,_=>by omega
 |d+1,D+1,n,t,xs,ys,hD,h,hx,hy=>by
  unfold mS at h;split at h
  .rename_i hu;cases h;unfold zEz;rw[hu]
   match xs,hx,ys,hy with
   |[x],_,[y],_ =>
    simp only[jD5,iW];rw[run_equalIn_int w D t .i64 .i64 x y hu]
    congr 1
    by_cases hxy:x=y<;>simp[hxy]
  .rename_i fs hu;split at h
   .cases h
   rename_i hst;unfold zEz;rw[hu];have hfo:P.fieldsOf t=fs:=by simp[Program.fieldsOf,hu]
   rw[run_equalIn_struct w D t _ _ (by rw[hfo];exact hu) (by simpa using hst),hfo];have go:∀(fs:List Field) (pre pre' xs ys:wC),pre.length=pre'.length->rV P (mS P d) pre.length fs=some n->pre.length+xs.length=n->pre.length+ys.length=n ->
    (Op.eqFields D ((pre++xs).map iW).toArray ((pre'++ys).map iW).toArray fs).run P w=.ok (decide (xs=ys)) w:=by
    intro fs;induction fs with
    |nil =>
     intro pre pre' xs ys hp hf hx hy;simp only[rV,jA3]at hf;have e1:xs=[]:=List.length_eq_zero_iff.1 (by omega);have e2:ys=[]:=List.length_eq_zero_iff.1 (by omega);simp[Op.eqFields,e1,e2]
    |cons f fs ih =>
     intro pre pre' xs ys hp hf hx hy;unfold rV at hf;split at hf<;>try(cases hf;done)
     rename_i hof;obtain⟨hof,hnm⟩:=hof;split at hf<;>try(cases hf;done)
     rename_i k hk;split at hf<;>try(cases hf;done)
     rename_i hsz;have hkn:pre.length+k<=n:=by
      have mono:∀(fs:List Field) (o n:Nat),rV P (mS P d) o fs=some n->o<=n:=by
       intro fs;induction fs with
       |nil=>intro o n h;simp only[rV,jA3]at h;omega
       |cons f fs ih =>
        intro o n h;unfold rV at h;split at h<;>try(cases h;done)
        split at h<;>try(cases h;done)
        split at h<;>try(cases h;done)
        have:=ih _ _ h;omega
      exact mono _ _ _ hf
     have p1:=zGc (w:=w) (pre:=pre) (xs:=xs) hk hsz (by omega);have p2:=zGc (w:=w) (pre:=pre') (xs:=ys) hk hsz (by omega);rw[<-hof]at p1;rw[<-hp,<-hof]at p2;have hq:=eqI d D k f.type (xs.take k) (ys.take k) (by omega) hk (by simp;omega) (by simp;omega);have:=ih (pre++xs.take k) (pre'++ys.take k) (xs.drop k) (ys.drop k) (by simp;omega) (by simpa[jAx (show k<=xs.length by omega)]using hf) (by simp;omega) (by simp;omega);simp only[jAq,jBw]at this;simp only[Op.eqFields,hnm,ne_eq,not_false_eq_true,if_true,Sem.run_bind,p1,p2,Result.andThen_ok,hq];have hdec:decide (xs=ys)=(decide (xs.take k=ys.take k)&&decide (xs.drop k=ys.drop k)):=by
      by_cases h:xs=ys
      .simp[h]
      .have:¬(xs.take k=ys.take k/\xs.drop k=ys.drop k):=fun⟨a,b⟩=>h (by rw[<-jBw k xs,a,b,jBw])
       simp only[h,decide_false];symm;rw[jCx];by_cases h1:xs.take k=ys.take k
       .right;simp only[decide_eq_false_iff_not];exact fun e=>this ⟨h1,e⟩
       .left;simp[h1]
     rw[hdec];by_cases h1:xs.take k=ys.take k
     .simp only[h1,decide_true,Bool.not_true,jAg,if_false,this,jCp]
     .simp[h1]
   exact go fs.toList [] [] xs ys rfl h (by simpa using hx) (by simpa using hy)
  .cases h
theorem zRK(em:Bool):∀(d D n:Nat) (t:TypeId) (xs:wC),d<=D->mS P d t=some n->xs.length=n->(Instr.checkKey em D t (zEz P t xs)).run P w=.ok () w
 | 0,_,_,_,_,_,h,_=>by simp[mS]at h
 |d+1,0,_,_,_,hD,_,_=>by omega
 |d+1,D+1,n,t,xs,hD,h,hx=>by
  unfold mS at h;split at h
  .rename_i hu;cases h;unfold zEz;rw[hu];simp[Instr.checkKey,run_underlying hu,iW]
  .rename_i fs hu;split at h
   .cases h
   rename_i hst;unfold zEz;rw[hu];simp only[Instr.checkKey,Sem.run_bind,run_underlying hu,Result.andThen_ok];rw[<-Array.forIn_toList];have go:∀(fs:List Field) (pre xs:wC),rV P (mS P d) pre.length fs=some n->pre.length+xs.length=n ->
    (forIn (m:=Sem) fs PUnit.unit fun f (_:PUnit)=>(if f.name ≠ "_" then do
     let a <-part f.type ((pre++xs).map iW).toArray f.offset
     Instr.checkKey em D f.type a
     pure (ForInStep.yield PUnit.unit)
     else pure (ForInStep.yield PUnit.unit))).run P w=.ok PUnit.unit w:=by
    intro fs;induction fs with
    |nil=>intro pre xs _ _;simp
    |cons f fs ih =>
     intro pre xs hf hx;unfold rV at hf;split at hf<;>try(cases hf;done)
     rename_i hof;obtain⟨hof,hnm⟩:=hof;split at hf<;>try(cases hf;done)
     rename_i k hk;split at hf<;>try(cases hf;done)
     rename_i hsz;have hkn:pre.length+k<=n:=by
      have mono:∀(fs:List Field) (o n:Nat),rV P (mS P d) o fs=some n->o<=n:=by
       intro fs;induction fs with
       |nil=>intro o n h;simp only[rV,jA3]at h;omega
       |cons f fs ih =>
        intro o n h;unfold rV at h;split at h<;>try(cases h;done)
        split at h<;>try(cases h;done)
        split at h<;>try(cases h;done)
        have:=ih _ _ h;omega
      exact mono _ _ _ hf
     have p1:=zGc (w:=w) (pre:=pre) (xs:=xs) hk hsz (by omega);rw[<-hof]at p1;have hq:=zRK em d D k f.type (xs.take k) (by omega) hk (by simp;omega);have:=ih (pre++xs.take k) (xs.drop k) (by simpa[jAx (show k<=xs.length by omega)]using hf) (by simp;omega);simp only[jAq,jBw]at this;simp only[List.forIn_cons,hnm,ne_eq,not_false_eq_true,if_true,Sem.run_bind,p1,Result.andThen_ok,hq,Sem.run_pure];exact this
   have h':=go fs.toList [] xs h (by simpa using hx);simp at h' ⊢;rw[h'];rfl
  .cases h
end
end Go.Abs
namespace Go.Abs
section
variable{P:Program}{H:Mem}{L:wO} {U:St}{w:World}{N:Nat}{env:Env}{a:Act}
theorem zHL:∀{cs:wF} {ks:wC} {vs:wM},zA6 cs=some ks->qE H L cs vs->vs=ks.map iW
 |[],ks,vs,h,hr=>by simp only[zA6,jA3]at h;subst h;rw[jL hr];rfl
 |c::cs,ks,vs,h,hr=>by
  unfold zA6 at h;split at h<;>try(cases h;done)
  .rename_i heq;cases heq
  rename_i n l heq;cases heq;simp only[jAf]at h;obtain⟨ks',hk,rfl⟩:=h;obtain⟨u,us,rfl,h1,h2⟩:=z8 hr;simp only[Rel]at h1;rw[h1,zHL hk h2];rfl
variable{nk:Nat}
theorem zFD{x:A}{ks:wC}{v:Value}(h:zBd nk x=some ks)(hr:Rel H L x v):v=iN ks/\ks.length=nk:=by
 unfold zBd at h;split at h<;>try(cases h;done)
 .split at h<;>try(cases h;done)
  rename_i ks' hk;split at h<;>try(cases h;done)
  rename_i hn;cases h;simp only[Rel]at hr;obtain⟨vs,rfl,h1,_⟩:=hr;exact⟨by rw[zHL hk h1,zBZ (by omega)],hn.1⟩
 .split at h<;>try(cases h;done)
  rename_i hn;cases h;simp only[Rel]at hr;exact⟨hr,hn.symm⟩
theorem zLl(ks:wC):Rel H L (zBY ks) (iN ks):=by
 by_cases h1:ks.length=1
 .match ks,h1 with
  |[n],_=>simp[zBY,iN,Rel,iW]
 .have e:zBY ks=.agg (ks.map fun n=>.lit (.int .i64 n)):=by
   match ks,h1 with
   |[],_=>rfl
   |_::_::_,_=>rfl
  rw[e,zBZ h1];simp only[Rel];refine⟨ks.map iW,rfl,?_,fun u hu=>?_⟩
  .clear e h1;induction ks with
   |nil=>exact jR
   |cons k ks ih=>exact qN (by simp[Rel,iW]) ih
  .obtain⟨n,_,rfl⟩:=jA9.1 hu;rfl
theorem zJ7{k:TypeId}(h:zBe P k=some nk):mS P 20 k=some nk/\(∀ks:wC,ks.length=nk->zEz P k ks=iN ks)/\((match P.underlying k with|some (.array _ _)|some (.struct _)=>true|_=>false)=true\/(P.underlying k=some (.int .i64)/\nk=1)):=by
 unfold zBe at h;split at h<;>try(cases h;done)
 .rename_i fs hu;split at h<;>try(cases h;done)
  rename_i n hn;split at h<;>try(cases h;done)
  rename_i hn1;cases h;refine⟨hn,fun ks hks=>?_,.inl (by rw[hu])⟩;unfold zEz;rw[hu,zBZ (by omega)]
 .rename_i hu;cases h;refine⟨by simp[mS,hu],fun ks hks=>?_,.inr ⟨hu,rfl⟩⟩;unfold zEz;rw[hu]
  match ks,hks with
  |[n],_=>rfl
theorem zBR{k:TypeId}{nk:Nat}(hk:zBe P k=some nk){ks:wC}(hks:ks.length=nk):∀(es:List (wC×A)) (l:List MapEntry) (i:Nat),aV H L es l->(∀p∈es,p.1.length=nk) ->
 (bN ks es=none/\(Instr.findAsking k (iN ks) l i).run P w=.ok none w/\(∀v,lS ks v es=es++[(ks,v)])/\zCR ks es=es) \/
 ∃(j:Nat) (p:wC×A) (e:MapEntry),es[j]?=some p/\p.1=ks/\bN ks es=some p.2/\l[j]?=some e/\Rel H L p.2 e.val/\e.key=iN ks/\(Instr.findAsking k (iN ks) l i).run P w=.ok (some (i+j,e.val)) w/\(∀v,lS ks v es=es.set j (ks,v))/\zCR ks es=es.eraseIdx j
 |[],l,i,h,_=>by rw[show l=[] from h];exact .inl ⟨rfl,by simp[Instr.findAsking],fun v=>rfl,rfl⟩
 |p::es,l,i,h,hn=>by
  obtain⟨e,l',rfl,h1,h2,h3⟩:=h;obtain⟨hi,hv,_⟩:=zJ7 hk;have heq:=eqI (P:=P) (w:=w) 20 10000 nk k ks p.1 (by decide) hi hks (hn p (jAm ..));rw[hv _ hks,hv _ (hn p (jAm ..)),<-h1]at heq;have heq:(Op.equal k (iN ks) e.key).run P w=.ok (decide (ks=p.1)) w:=heq;by_cases hp:p.1=ks
  .refine .inr ⟨0,p,e,rfl,hp,by simp[bN,hp],rfl,h2,by rw[h1,hp],?_,fun v=>by simp[lS,hp],by simp[zCR,hp]⟩;simp[Instr.findAsking,heq,hp]
  .have hp':¬ks=p.1:=fun e=>hp e.symm
   rcases zBR hk hks es l' (i+1) h3 (fun q hq=>hn q (jAk _ hq))with ⟨g1,g2,g3,g4⟩|⟨j,q,e',g1,g2,g3,g4,g5,g6,g7,g8,g9⟩
   .refine .inl ⟨by simp[bN,hp,g1],?_,fun v=>by simp[lS,hp,g3],by simp[zCR,hp,g4]⟩;simp[Instr.findAsking,heq,hp',g2]
   .refine .inr ⟨j+1,q,e',by simpa using g1,g2,by simp[bN,hp,g3],by simpa using g4,g5,g6,?_,fun v=>by simp[lS,hp,g8],by simp[zCR,hp,g9]⟩;simp only[Instr.findAsking,Sem.run_bind,heq,Result.andThen_ok,hp',decide_false,jAg,if_false,g7]
    congr 3
    omega
theorem zOz{k:TypeId}(hu:P.underlying k=some (.int .i64)){n:Int}:∀(es:List (wC×A)) (l:List MapEntry) (i:Nat),aV H L es l->(∀p∈es,p.1.length=1) ->
 ∃r,Instr.findNow (.int .i64) (iW n) l i=some r/\(Instr.findAsking k (iW n) l i).run P w=.ok r w
 |[],l,i,h,_=>by rw[show l=[] from h];exact⟨none,rfl,by simp[Instr.findAsking]⟩
 |p::es,l,i,h,hn=>by
  obtain⟨e,l',rfl,h1,h2,h3⟩:=h;obtain⟨r,q1,q2⟩:=zOz hu (n:=n) es l' (i+1) h3 (fun q hq=>hn q (jAk _ hq));have hp1:=hn p (jAm ..);obtain⟨⟨ks,x⟩,rfl⟩:∃q:wC×A,q=p:=⟨p,rfl⟩
  match ks,hp1 with
  |[m],_ =>
   have h1:e.key=iW m:=h1;have heq:(Op.equal k (iW n) (iW m)).run P w=.ok (n==m) w:=run_equalIn_int w 9999 k .i64 .i64 n m hu;by_cases hnm:n=m
   .subst hnm;refine⟨some (i,e.val),?_,?_⟩
    .simp[Instr.findNow,h1,iW,Instr.sameNow]
    .simp[Instr.findAsking,h1,heq]
   .refine⟨r,?_,?_⟩
    .have hb:(n==m)=false:=by simpa using hnm
     simpa[Instr.findNow,h1,iW,Instr.sameNow,hb]using q1
    .simpa[Instr.findAsking,h1,heq,hnm]using q2
variable{es:List (wC×A)}
theorem zAf{k:TypeId}(hk:zBe P k=some nk){ks:wC}(hks:ks.length=nk){l:List MapEntry}(hr:aV H L es l)(hn:∀p∈es,p.1.length=nk) :
 (Instr.findKey k (iN ks) l).run P w=(Instr.findAsking k (iN ks) l).run P w:=by
 obtain⟨_,_,hw|⟨hu,rfl⟩⟩:=zJ7 hk
 .exact run_findKey_eq w hw _ _
 .match ks,hks with
  |[n],_ =>
   obtain⟨r,q1,q2⟩:=zOz (w:=w) hu (n:=n) es l 0 hr hn;show (Instr.findKey k (iW n) l).run P w=(Instr.findAsking k (iW n) l 0).run P w;rw[q2];simp only[Instr.findKey,Sem.run_bind,run_underlying hu,Result.andThen_ok,q1,Sem.run_pure]
theorem nX{k:TypeId}(hk:zBe P k=some nk){ks:wC}(hks:ks.length=nk)(em:Bool):(Instr.checkKey em 10000 k (iN ks)).run P w=.ok () w:=by
 obtain⟨hi,hv,_⟩:=zJ7 hk;have:=zRK (P:=P) (w:=w) em 20 10000 nk k ks (by decide) hi hks
 rwa[hv _ hks]at this
theorem zJx(ks:wC):Instr.sameBits 10000 (iN ks) (iN ks)=true:=by
 by_cases h1:ks.length=1
 .match ks,h1 with
  |[n],_=>simp[iN,iW,Instr.sameBits]
 rw[zBZ h1];simp only[Instr.sameBits,beq_self_eq_true,jCp,jB3];intro p hp;obtain⟨x,y⟩:=p;have hxy:x=y/\∃n,x=iW n:=by
  have:∀(l:wM),(∀v∈l,∃n,v=iW n)->∀q∈l.zip l,q.1=q.2/\∃n,q.1=iW n:=by
   intro l;induction l with
   |nil=>intro _ q hq;simp at hq
   |cons v l ih =>
    intro h q hq;simp only[List.zip_cons_cons,jA1]at hq;rcases hq with rfl|hq
    .exact⟨rfl,h v (jAm ..)⟩
    .exact ih (fun v hv=>h v (jAk _ hv)) q hq
  exact this _ (fun v hv=>by simp only[jA9]at hv;obtain⟨n,_,rfl⟩:=hv;exact⟨n,rfl⟩) _ hp
 obtain⟨rfl,n,rfl⟩:=hxy;simp[iW,Instr.sameBits]
variable{ents:Array MapEntry}
theorem zUP{t k e:TypeId}(ht:P.underlying t=some (.map k e))(hk:zBe P k=some nk){i:TypeInfo}(hi:P.info? e=some i){z:Value}(hz:i.zero=some z){ks:wC}(hks:ks.length=nk){ck b:Nat}
 (hb:w.heap[b]?=some (.map ents ck))(hr:aV H L es ents.toList)(hn:∀p∈es,p.1.length=nk)(ok:Bool) :
 ∃v,(Instr.lookup t (.map (some b)) (iN ks) ok).run P w=.ok v w/\Rel H L (uT z ok (bN ks es)) v:=by
 have hzr:(zeroValue e).run P w=.ok z w:=by simp[zeroValue,typeInfo,hi,hz]
 have hg:(getObj b).run P w=.ok (.map ents ck) w:=by simp[getObj,Sem.run,hb]
 rcases zBR (w:=w) hk hks es ents.toList 0 hr hn with ⟨g1,g2,_,_⟩|⟨j,p,en,g1,g2,g3,g4,g5,g6,g7,_,_⟩
 .refine⟨if ok then .tuple #[z,.bool false]else z,?_,?_⟩
  .simp only[Instr.lookup,Sem.run_bind,run_underlying ht,Result.andThen_ok,hg,Sem.run_pure,nX hk hks,zAf hk hks hr hn,g2,hzr]
  .cases ok
   .simp only[uT,g1,Option.getD_none];exact xC z
   .simp only[uT,g1,if_true,Option.getD_none,Option.isSome_none,Rel];exact⟨[z,.bool false],rfl,qN (xC z) (qN (by simp[Rel]) jR)⟩
 .refine⟨if ok then .tuple #[en.val,.bool true]else en.val,?_,?_⟩
  .simp only[Instr.lookup,Sem.run_bind,run_underlying ht,Result.andThen_ok,hg,Sem.run_pure,nX hk hks,zAf hk hks hr hn,g7]
  .cases ok
   .simp only[uT,g3,jBt];exact g5
   .simp only[uT,g3,if_true,jBt,Option.isSome_some,Rel];exact⟨[en.val,.bool true],rfl,qN g5 (qN (by simp[Rel]) jR)⟩
theorem zFX(hs:RelSt H L U w)(ob:AObj)(o:Obj)(ho:qB H (L++[(⟨some w.heap.size,0,0,false⟩:LI)]) (w.alloc o) ⟨some w.heap.size,0,0,false⟩ ob) :
 Nxt H L w H (L++[(⟨some w.heap.size,0,0,false⟩:LI)]) (U++[ob]) (w.alloc o):=by
 have hll:=LLe.append L [(⟨some w.heap.size,0,0,false⟩:LI)];refine⟨⟨fun b o v hv=>?_,by simp[hs.len],fun i l o hL hU=>?_,fun i j l l' b hi hj hb hb'=>?_,fun i l b hL hb=>?_⟩,
  ⟨rfl,rfl,rfl,by simp,fun k hk _=>heap_alloc_old w _ (h:=hk),HLe.refl _,fun b o v hv=>.inl hv,jA _,pI (fun k hk=>heap_alloc_old w _ (h:=hk))⟩,hll,fun b ⟨i,l,hL,hb⟩=>?_⟩
 .rw[World.cell?_alloc_lt _ _ _ (hs.h_lt hv)];exact hs.pers b o v hv
 .rcases jU hL with hL'|⟨rfl,rfl⟩
  .have hi:i<L.length:=(jA5.1 hL').1;rw[jAp (by rw[<-hs.len];exact hi)]at hU;exact(hs.obj i l o hL' hU).carry (fun b hb=>heap_alloc_old w _ (h:=hs.lt i l b hL' hb)) (HLe.refl _) hll (fun _ _ _=>rfl)
  .rw[hs.len]at hU;rw[jB9 (jA _)]at hU;simp only[jBn,jB8,jA3]at hU;subst hU;exact ho
 .rcases jU hi with hi'|⟨rfl,rfl⟩
  .rcases jU hj with hj'|⟨rfl,rfl⟩
   .exact hs.inj i j l l' b hi' hj' hb hb'
   .cases hb';have:=hs.lt i l _ hi' hb;omega
  .cases hb;rcases jU hj with hj'|⟨rfl,rfl⟩
   .have:=hs.lt j l' _ hj' hb';omega
   .rfl
 .rcases jU hL with hL'|⟨rfl,rfl⟩
  .have:=hs.lt i l b hL' hb;simp;omega
  .cases hb;simp
 .rcases jU hL with hL'|⟨rfl,rfl⟩
  .exact .inl ⟨i,l,hL',hb⟩
  .cases hb;exact .inr (jA _)
variable{l:Nat}
theorem oT(hs:RelSt H L U w){b:Nat}{li:LI}{o0 o:Obj}{ob:AObj}(hl:L[l]?=some li)(hb:li.block=some b)(h0:w.heap[b]?=some o0)(hc:∀c e f,o0≠.cells c e f)(hv:∀a t,o0≠.view a t)(hp:∀c e,o0≠.pending c e)(hn:∀a x,o0≠.number a x)(hd:∀d,o0≠.deferred d)
 (ho:qB H L (w.putObj b o) li ob):Nxt H L w H L (U.set l ob) (w.putObj b o):=by
 have hnone:∀o,H b o=none:=fun o=>by
  cases hH:H b o with
  |none=>rfl
  |some v =>
   have:=hs.pers b o v hH;simp only[World.cell?,h0]at this;cases o0<;>simp_all
 exact zAj hs hl hb rfl rfl rfl rfl (fun d=>by rw[h0];exact fun e=>hd d (jAy e)) (by simp) (fun k hk=>World.putObj_heap_other hk) (HLe.refl _) (fun _ _ _ h=>.inl h) (fun o' v hv=>by rw[hnone]at hv;cases hv) ho
theorem uA{r:Nat}{es:Array MapEntry}{ck:Nat}(o:Obj)(h:w.heap[r]?=some (.map es ck)):(setObj r o).run P w=.ok () (w.putObj r o):=by simp[setObj,Sem.run,h,World.putObj]
theorem zFJ{α:Type}(a:Array α)(j:Nat)(f : α->α)(x : α)(h:a[j]?=some x):a.modify j f=a.setIfInBounds j (f x):=by
 apply jC9;rw[Array.toList_modify,jDq];apply jCi;intro i;rw[List.getElem?_modify,jDp];rw[<-jD0]at h;by_cases hi:j=i
 .subst hi;have:=(jA5.1 h).1;rw[jB5]at this;have hx:a[j]=x:=by rw[jD0,Array.getElem?_eq_getElem this]at h;exact jAy h
  simp[this,hx,h]
 .simp[hi]
theorem aV.setAt:∀{es:List (wC×A)} {l:List MapEntry} {j:Nat} {e:MapEntry} {ks:wC} {a:A},aV H L es l->e.key=iN ks->Rel H L a e.val->aV H L (es.set j (ks,a)) (l.set j e)
 |[],l,j,e,ks,a,h,_,_=>by rw[show l=[] from h];exact rfl
 |p::es,_,0,e,ks,a,⟨e0,l',rfl,h1,h2,h3⟩,hk,hr=>⟨e,l',rfl,hk,hr,h3⟩
 |p::es,_,j+1,e,ks,a,⟨e0,l',rfl,h1,h2,h3⟩,hk,hr=>⟨e0,_,rfl,h1,h2,aV.setAt h3 hk hr⟩
theorem aV.snoc:∀{es:List (wC×A)} {l:List MapEntry} {e:MapEntry} {ks:wC} {a:A},aV H L es l->e.key=iN ks->Rel H L a e.val->aV H L (es++[(ks,a)]) (l++[e])
 |[],l,e,ks,a,h,hk,hr=>by rw[show l=[] from h];exact⟨e,[],rfl,hk,hr,rfl⟩
 |p::es,_,e,ks,a,⟨e0,l',rfl,h1,h2,h3⟩,hk,hr=>⟨e0,_,rfl,h1,h2,aV.snoc h3 hk hr⟩
theorem aV.eraseAt:∀{es:List (wC×A)} {l:List MapEntry} {j:Nat},aV H L es l->aV H L (es.eraseIdx j) (l.eraseIdx j)
 |[],l,j,h=>by rw[show l=[] from h];exact rfl
 |p::es,_,0,⟨e0,l',rfl,h1,h2,h3⟩=>by simpa using h3
 |p::es,_,j+1,⟨e0,l',rfl,h1,h2,h3⟩=>⟨e0,_,rfl,h1,h2,aV.eraseAt h3⟩
variable{m:Value}
theorem zBo{t k e:TypeId}(ht:P.underlying t=some (.map k e))(hk:zBe P k=some nk)(hs:RelSt H L U w){fr:Bool}{ks:wC}(hks:ks.length=nk){v:Value}{x:A}
 (hm:Rel H L (.map l) m)(hU:U[l]?=some (.mp fr nk es))(hv:Rel H L x v) :
 ∃w',(Instr.mapUpdate t m (iN ks) v).run P w=.ok () w'/\Nxt H L w H L (U.set l (.mp fr nk (lS ks x es))) w':=by
 simp only[Rel]at hm;obtain⟨li,b,hL,hb,hrow,rfl⟩:=hm;have hob:=hs.obj l li _ hL hU;simp only[qB]at hob;obtain⟨_,b',ents,ck,e1,h2,hr,hbn,hn⟩:=hob;rw[hb]at e1;cases e1;have hg:(getObj b).run P w=.ok (.map ents ck) w:=by simp[getObj,Sem.run,h2]
 have hlt:=hs.lt l li b hL hb;have hsame:∀o,(w.putObj b o).heap[b]?=some o:=fun o=>World.putObj_heap_same hlt
 rcases zBR (w:=w) hk hks es ents.toList 0 hr hn with ⟨g1,g2,g3,_⟩|⟨j,p,en,g1,g2,g3,g4,g5,g6,g7,g8,_⟩
 .refine⟨w.putObj b (.map (ents.push ⟨iN ks,v,ck⟩) (ck+1)),?_,?_⟩
  .simp only[Instr.mapUpdate,Sem.run_bind,run_underlying ht,Result.andThen_ok,hg,nX hk hks,zAf hk hks hr hn,g2,uA _ h2]
  .rw[g3];refine oT hs hL hb h2 (by simp) (by simp) (by simp) (by simp) (by simp) ?_;simp only[qB];refine⟨hrow,b,_,_,hb,hsame _,by rw[Array.toList_push];exact aV.snoc hr rfl hv,fun hf=>?_,fun q hq=>?_⟩
   .obtain⟨c1,c2⟩:=hbn hf;refine⟨by simp[c1],fun i e he=>?_⟩;rw[Array.toList_push]at he;rcases jU he with he|⟨rfl,rfl⟩
    .exact c2 i e he
    .exact c1
   .rcases jA6.1 hq with hq|hq
    .exact hn q hq
    .simp at hq;rw[hq];exact hks
 .have hj:ents[j]?=some en:=by rw[<-jD0];exact g4
  have hmod:ents.modify j (fun e=>{e with key:=iN ks,val:=v})=ents.setIfInBounds j {en with key:=iN ks,val:=v}:=zFJ ents j _ en hj;refine⟨w.putObj b (.map (ents.setIfInBounds j {en with key:=iN ks,val:=v}) ck),?_,?_⟩
  .simp only[Instr.mapUpdate,Sem.run_bind,run_underlying ht,Result.andThen_ok,hg,nX hk hks,zAf hk hks hr hn,g7,jB1,hj,jBz,jBt,g6,Instr.keyThatStays,zJx,if_true,Sem.run_pure,hmod,uA _ h2]
  .rw[g8];refine oT hs hL hb h2 (by simp) (by simp) (by simp) (by simp) (by simp) ?_;simp only[qB];refine⟨hrow,b,_,_,hb,hsame _,by rw[jDq];exact aV.setAt hr rfl hv,fun hf=>?_,fun q hq=>?_⟩
   .obtain⟨c1,c2⟩:=hbn hf;refine⟨by simp[c1],fun i e he=>?_⟩;rw[jDq,jDp]at he;split at he
    .rename_i hji;subst hji;split at he
     .cases he;exact c2 _ en g4
     .cases he
    .exact c2 i e he
   .rcases List.mem_or_eq_of_mem_set hq with hq|rfl
    .exact hn q hq
    .exact hks
theorem zYV{t k e:TypeId}(ht:P.underlying t=some (.map k e))(hk:zBe P k=some nk)(hs:RelSt H L U w){fr:Bool}{ks:wC}(hks:ks.length=nk)
 (hm:Rel H L (.map l) m)(hU:U[l]?=some (.mp fr nk es))(ats:Array TypeId)(hat:ats[0]?=some t)(ty:TypeId) :
 ∃w',(Builtin.delete_ ats ty #[m,iN ks]).run P w=.ok (.tuple #[]) w'/\Nxt H L w H L (U.set l (.mp false nk (zCR ks es))) w':=by
 simp only[Rel]at hm;obtain⟨li,b,hL,hb,hrow,rfl⟩:=hm;have hob:=hs.obj l li _ hL hU;simp only[qB]at hob;obtain⟨_,b',ents,ck,e1,h2,hr,hbn,hn⟩:=hob;rw[hb]at e1;cases e1;have hg:(getObj b).run P w=.ok (.map ents ck) w:=by simp[getObj,Sem.run,h2]
 have hlt:=hs.lt l li b hL hb;have hsame:∀o,(w.putObj b o).heap[b]?=some o:=fun o=>World.putObj_heap_same hlt
 rcases zBR (w:=w) hk hks es ents.toList 0 hr hn with ⟨g1,g2,_,g4⟩|⟨j,p,en,g1,g2,g3,g4,g5,g6,g7,_,g9⟩
 .refine⟨w.putObj b (.map ents ck),?_,?_⟩
  .simp only[Builtin.delete_,hat,List.getElem?_toArray,jB8,jBj,Sem.run_bind,run_underlying ht,Result.andThen_ok,hg,nX hk hks,zAf hk hks hr hn,g2,uA _ h2];rfl
  .rw[g4];refine oT hs hL hb h2 (by simp) (by simp) (by simp) (by simp) (by simp) ?_;simp only[qB];exact⟨hrow,b,_,_,hb,hsame _,hr,fun hf=>(by cases hf),hn⟩
 .refine⟨w.putObj b (.map (ents.eraseIdxIfInBounds j) ck),?_,?_⟩
  .simp only[Builtin.delete_,hat,List.getElem?_toArray,jB8,jBj,Sem.run_bind,run_underlying ht,Result.andThen_ok,hg,nX hk hks,zAf hk hks hr hn,g7,jB1,uA _ h2];rfl
  .rw[g9];refine oT hs hL hb h2 (by simp) (by simp) (by simp) (by simp) (by simp) ?_;simp only[qB];have hsub:(ents.eraseIdxIfInBounds j).toList=ents.toList.eraseIdx j:=by
    unfold Array.eraseIdxIfInBounds;split
    .simp
    .rw[List.eraseIdx_of_length_le (by simp;omega)]
   exact⟨hrow,b,_,_,hb,hsame _,by rw[hsub];exact aV.eraseAt hr,fun hf=>(by cases hf),fun q hq=>hn q (List.mem_of_mem_eraseIdx hq)⟩
theorem qGx(hs:RelSt H L U w)(nk:Nat):Nxt H L w H (L++[(⟨some w.heap.size,0,0,false⟩:LI)]) (U++[AObj.mp true nk []]) (w.alloc (.map #[] 0)):=by refine zFX hs _ _ ?_;simp only[qB];exact⟨trivial,w.heap.size,#[],0,rfl,heap_alloc_new w _,rfl,fun _=>⟨rfl,fun i e he=>by simp at he⟩,by simp⟩
theorem zZR{t k e:TypeId}(ht:P.underlying t=some (.map k e))(hs:RelSt H L U w)(hm:Rel H L (.map l) m)(hU:U[l]?=some (.mp true nk es)) :
 ∃w',(Instr.range t m).run P w=.ok (.pointer (some ⟨w.heap.size,0,none⟩)) w'/\Nxt H L w H (L++[(⟨some w.heap.size,0,0,false⟩:LI)]) (U++[AObj.it l es.length []]) w':=by
 simp only[Rel]at hm;obtain⟨li,b,hL,hb,hrow,rfl⟩:=hm;have hob:=hs.obj l li _ hL hU;simp only[qB]at hob;obtain⟨_,b',ents,ck,e1,h2,hr,hbn,hn⟩:=hob;rw[hb]at e1;cases e1;obtain⟨c1,c2⟩:=hbn rfl;have hck:ck=es.length:=by rw[c1,hr.length]
 refine⟨w.alloc (.mapIter (some b) ck #[] ck),?_,?_⟩
 .have hg:(getObj b).run P w=.ok (.map ents ck) w:=by simp[getObj,Sem.run,h2]
  simp only[Instr.range,Sem.run_bind,run_underlying ht,Result.andThen_ok,hg,Sem.run_pure,run_newObj];rfl
 .refine zFX hs _ _ ?_;simp only[qB];refine⟨trivial,w.heap.size,b,li,rfl,?_,hb,hrow,?_⟩
  .rw[jAp (jA5.1 hL).1];exact hL
  .rw[heap_alloc_new,hck]
variable{met:wA}
theorem zKE{e:MapEntry}:e∈(leftOf ents met.toArray).toList↔e∈ents.toList/\e.born∉met:=by unfold leftOf;simp
theorem zCl(hs:RelSt H L U w):Nxt H L w H L U w.drew :=
 ⟨hs.heap_eq rfl,⟨rfl,rfl,rfl,jA _,fun _ _ _=>rfl,HLe.refl _,fun _ _ _ h=>.inl h,jCf _,fun _ _ h=>h⟩,LLe.refl _,fun _ h=>.inl h⟩
variable{it:Value}
theorem zVw(ty:TypeId)(hs:RelSt H L U w){j l nk n:Nat}(hi:Rel H L (.ptr j 0) it)(hU:U[j]?=some (.it l n met))(hUl : U[l]?=some (.mp true nk es))(hnn:n=es.length) :
 ((∀i,i<n->i∈met)/\(Instr.next it false ty).run P w=.ok (.tuple #[.bool false]) w) \/
 ∃(i:Nat) (p:wC×A) (v:Value) (w':World),i∉met/\es[i]?=some p/\(Instr.next it false ty).run P w=.ok (.tuple #[.bool true,iN p.1,v]) w'/\Rel H L p.2 v/\Nxt H L w H L (U.set j (.it l n (met++[i]))) w':=by
 simp only[Rel]at hi;obtain⟨li,b,hL,hb,hrow,rfl⟩:=hi;have hob:=hs.obj j li _ hL hU;simp only[qB]at hob;obtain⟨_,b',mb,lm,e1,e2,e3,e4,hit⟩:=hob;rw[hb]at e1;cases e1;have hom:=hs.obj l lm _ e2 hUl;simp only[qB]at hom;obtain⟨_,mb',ents,ck,g1,g2,hr,hbn,hn⟩:=hom;rw[e3]at g1;cases g1;obtain⟨c1,c2⟩:=hbn rfl;have hck:ck=n:=by rw[c1,hr.length,hnn]
 have hborn:∀x∈ents.toList,x.born<n:=fun x hx=>by obtain⟨i,hi,rfl⟩:=List.mem_iff_getElem.1 hx;have:=c2 i _ (jA2 hi);rw[this,<-hck,c1];exact hi
 rcases run_next_at (P:=P) w ty b mb n n met.toArray ents ck hit g2 hborn (jA _)with ⟨k1,k2⟩|⟨e,he,w1,k1,k2⟩
 .refine .inl ⟨fun i hi=>?_,k2⟩;have hie:i<ents.toList.length:=by rw[hr.length];omega
  have hbi:=c2 i _ (jA2 hie);by_cases hmi:i∈met
  .exact hmi
  .have:ents.toList[i]∈(leftOf ents met.toArray).toList:=zKE.2 ⟨jA0 hie,by rw[hbi];exact hmi⟩;have h0:leftOf ents met.toArray = #[]:=Array.eq_empty_of_size_eq_zero k1;rw[h0]at this;simp at this
 .obtain⟨he1,he2⟩:=zKE.1 he;obtain⟨i,hi,rfl⟩:=List.mem_iff_getElem.1 he1;have hbi:=c2 i _ (jA2 hi);have hie:i<es.length:=by rw[<-hr.length];exact hi
  obtain⟨e',q1,q2,q3⟩:=hr.get (jA2 hie);rw[jA2 hi]at q1;cases q1;refine .inr ⟨i,es[i],_,_,by rw[<-hbi];exact he2,jA2 hie,by rw[<-q2];exact k2,q3,?_⟩;have hnx1:Nxt H L w H L U w1:=by
   rcases k1 with rfl|rfl
   .exact Nxt.refl hs
   .exact zCl hs
  have hh:w1.heap=w.heap:=by rcases k1 with rfl|rfl<;>rfl
  have hit1:w1.heap[b]?=some (.mapIter (some mb) n met.toArray n):=by rw[hh];exact hit
  have hlt:b<w1.heap.size:=by rw[hh];exact hs.lt j li b hL hb
  refine hnx1.trans ?_;refine oT hnx1.st hL hb hit1 (by simp) (by simp) (by simp) (by simp) (by simp) ?_;simp only[qB];refine⟨hrow,b,mb,lm,hb,e2,e3,e4,?_⟩;rw[World.putObj_heap_same hlt,hbi,hck];simp
theorem zYZ(hs:RelSt H L U w){j l nk n i:Nat}(hi:Rel H L (.ptr j 0) it)(hU:U[j]?=some (.it l n met))(hUl : U[l]?=some (.mp true nk es))(hnn:n=es.length)(hmet:met.getLast?=some i){p:wC×A}(hp:es[i]?=some p) :
 ∃v,(Instr.entry it).run P w=.ok (.tuple #[iN p.1,v]) w/\Rel H L p.2 v:=by
 simp only[Rel]at hi;obtain⟨li,b,hL,hb,hrow,rfl⟩:=hi;have hob:=hs.obj j li _ hL hU;simp only[qB]at hob;obtain⟨_,b',mb,lm,e1,e2,e3,e4,hit⟩:=hob;rw[hb]at e1;cases e1;have hom:=hs.obj l lm _ e2 hUl;simp only[qB]at hom;obtain⟨_,mb',ents,ck,g1,g2,hr,hbn,hn⟩:=hom;rw[e3]at g1;cases g1;obtain⟨c1,c2⟩:=hbn rfl;have hck:ck=n:=by rw[c1,hr.length,hnn]
 obtain⟨e,q1,q2,q3⟩:=hr.get hp;have hbi:=c2 i e q1;obtain⟨ini,hini⟩:∃ini,met=ini++[i]:=by rw[List.getLast?_eq_some_iff]at hmet;exact hmet
 have hnod:(ents.toList.map (·.born)).Nodup:=by rw[jDu,jC0];intro x y hx hy hxy;simp only[jAb]at hx hy;simp only[jB,c2 x _ (jA2 hx),c2 y _ (jA2 hy)];omega
 refine⟨e.val,?_,q3⟩;rw[<-q2];refine run_entry_at w b mb n ini.toArray ents ck e ?_ g2 (jBs q1) hnod;rw[hit,hini,hbi,hck];simp
end
end Go.Abs
