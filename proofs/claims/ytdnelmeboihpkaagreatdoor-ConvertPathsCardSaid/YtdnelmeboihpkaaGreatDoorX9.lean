/- slices.SortFunc: the kit's contracts as contracts over abstract states. -/
import Derived.Test.YtdnelmeboihpkaaGreatDoorX8
import Derived.Shelf.SlSortCmp.NoneTotal
import Derived.Shelf.Spec.SlicesGrow
set_option linter.unusedVariables false
set_option maxHeartbeats 8000000
set_option maxRecDepth 100000
set_option linter.unusedSimpArgs false
open Go.Proofs.Tryz
namespace Go.Abs
open Go.Sort Go.Proofs
section
variable{P:Program} {β:Type}{H:Mem}{L:wL}{w:World}
variable{g:FuncId}
theorem zJi{args:wE}{r:Int}(h:Ret P g args [] (int r) []){vs:wK}{W:World}(hH:∀b o v,H b o=some v->W.cell? ⟨b,o,none⟩=some v)(hvs:z8 H [] args vs) :
 Calls P g vs.toArray W fun e w'=>e=.returned (.int .i64 r)/\∃q os',w'=grow (W.drewN q) os':=by
 have hs:RelSt H [] [] W:=⟨hH,rfl,fun i l o hl=>by simp at hl,fun i j l l' b hl=>by simp at hl,fun i l b hl=>by simp at hl⟩;refine(h H [] W vs hs hvs).mono fun e w' hh=>?_
 obtain⟨o,U',H',L',ho,hn,rfl,rfl⟩:=hh;obtain⟨v,rfl,hv⟩:=ho;simp only[int,Rel]at hv;subst hv;refine⟨rfl,w'.drawn-W.drawn,w'.heap.extract W.heap.size w'.heap.size,?_⟩;have hh:w'.heap=W.heap++w'.heap.extract W.heap.size w'.heap.size:=by
  apply Array.ext_getElem?;intro k;rcases jAv k W.heap.size with hk|hk
  .rw[jDq hk];exact hn.step.keep k hk (fun⟨i,l,hi,_⟩=>by simp at hi)
  .rw[Array.getElem?_append_right hk,Array.getElem?_extract];split
   .congr 1;omega
   .rw[Array.getElem?_eq_none];omega
 have h1:=hn.step.os;have h2:=hn.step.tape;have h3:=hn.step.output;have h4:=hn.step.drawn;cases w' with
 |mk heap tape drawn os output =>
  cases W with
  |mk heap' tape' drawn' os' output' =>
   simp only at h1 h2 h3 h4 hh;simp only[grow,World.drewN,World.mk.injEq];exact⟨hh,h2,by omega,h1,h3⟩
def l9(us:List (β×wK)):wK:=us.flatMap (·.2)
@[simp]theorem zZM:l9 ([]:List (β×wK))=[]:=rfl
@[simp]theorem zKO{p : β×wK}{us:List (β×wK)}:l9 (p::us)=p.2++l9 us:=rfl
def zPD(H:Mem)(encA : β->wE)(us:List (β×wK)):Prop:=∀p∈us,z8 H [] (encA p.1) p.2/\∀v∈p.2,one v
theorem zCH{encA : β->wE}(hb:∀b,dK 0 (encA b)=true):∀(l:List β) (vs:wK),z8 H L (l.flatMap encA) vs->(∀v∈vs,one v)->∃us:List (β×wK),us.map (·.1)=l/\l9 us=vs/\zPD H encA us
 |[],vs,h,_=>⟨[],rfl,(jK h).symm,fun p hp=>by simp at hp⟩
 |b::l,vs,h,h1=>by
  rw[jB9]at h;obtain⟨us,ws,rfl,k1,k2⟩:=h.split;obtain⟨rest,r1,r2,r3⟩:=zCH hb l ws k2 (fun v hv=>h1 v (List.mem_append_right _ hv));refine⟨(b,us)::rest,by simp[r1],by simp[r2],fun p hp=>?_⟩;rcases jA1.1 hp with rfl|hp
  .exact⟨z8.levels (k:=0) (fun l hl=>by omega) _ (hb b) k1,fun v hv=>h1 v (jBj _ hv)⟩
  .exact r3 p hp
theorem zDP{encA : β->wE}(hb:∀b,dK 0 (encA b)=true):∀{us:List (β×wK)},zPD H encA us->z8 H L ((us.map (·.1)).flatMap encA) (l9 us)/\∀v∈l9 us,one v
 |[],_=>⟨jR,by simp⟩
 |p::us,h=>by
  obtain⟨k1,k2⟩:=h p (jAs ..);obtain⟨r1,r2⟩:=zDP hb (us:=us) fun q hq=>h q (jAo _ hq)
  refine⟨?_,fun v hv=>?_⟩
  .simp only[jAg,jB9,zKO];exact(z8.levels (k:=0) (fun l hl=>by omega) _ (hb p.1) k1).append r1
  .rcases jAa.1 hv with hv|hv
   .exact k2 v hv
   .exact r2 v hv
theorem zAH{encA : β->wE}{sz:Nat}(hlen:∀b,(encA b).length=sz):∀{us:List (β×wK)},zPD H encA us->(l9 us).length=us.length*sz
 |[],_=>by simp
 |p::us,h=>by have:=(h p (jAs ..)).1.length;simp[this,hlen,zAH hlen (us:=us) fun q hq=>h q (jAo _ hq),jBv,jCj]
def zGF(P:Program)(f g:FuncId)(encA : β->wE)(cf : β->β->Int):Prop :=
 ∀(H:Mem) (w:World) (b cap:Nat) (us:List (β×wK)),(∀b o v,H b o=some v->w.cell? ⟨b,o,none⟩=some v)->(∀o,H b o=none)->b<w.heap.size->us≠[]->us.length<4611686018427387904->zPD H encA us ->
  (∀j u,(l9 us)[j]?=some u->w.cell? ⟨b,j,none⟩=some u/\w.frozen? ⟨b,j,none⟩=false) ->
  Calls P f #[.slice (some ⟨b,0,none⟩) us.length cap,.func (.func g) #[] #[]] w fun e w'=>e=.returned (.tuple #[]) /\
   ∃(us':List (β×wK)) (n:Nat) (os:Array Obj),us'.Perm us/\us'.Pairwise (fun x y=>¬cf y.1 x.1<0)/\w'=grow (putRow id (Go.Sort.ahead w n) b 0 (l9 us').toArray) os
def oH(cf : β->β->Int)(l:List β):List β:=l.mergeSort fun x y=>!decide (cf y x<0)
structure Ord(cf : β->β->Int):Prop where
 irrefl:∀x,¬cf x x<0
 trans:∀x y z,cf x y<0->cf y z<0->cf x z<0
 ntrans:∀x y z,¬cf x y<0->¬cf y z<0->¬cf x z<0
 anti:∀x y,¬cf x y<0->¬cf y x<0->x=y
variable{cf:β->β->Int}
theorem zBi(ho:Ord cf){l l':List β}(hp:l'.Perm l)(hs:l'.Pairwise fun x y=>¬cf y x<0):l'=oH cf l:=by
 have h1:=List.pairwise_mergeSort (le:=fun x y=>!decide (cf y x<0)) (fun a b c h1 h2=>by simp only[jBi,decide_eq_false_iff_not]at *;exact ho.ntrans c b a h2 h1)
  (fun a b=>by
   simp only[jB4,jBi,decide_eq_false_iff_not];by_cases h:cf b a<0
   .exact .inr fun h'=>ho.irrefl _ (ho.trans _ _ _ h h')
   .exact .inl h) l
 refine List.Perm.eq_of_pairwise (le:=fun x y=>¬cf y x<0) (fun a b _ _ h1 h2=>ho.anti a b h2 h1) hs ?_ (hp.trans (List.mergeSort_perm l _).symm);exact h1.imp (fun h=>by simpa using h)
variable{b:Nat}{cur:Array Value}
theorem zJA{e:TypeId}(hh:w.heap[b]?=some (.cells cur e (0,0)))(n:Nat)(F:Array Value)(os:Array Obj) :
 (grow (putRow id (Go.Sort.ahead w n) b 0 F) os).heap[b]?=some (.cells (putCells id 0 F cur) e (0,0)):=by
 have hlt:b<w.heap.size:=(jD5.1 hh).1;simp only[grow];rw[jDq (by simpa[Go.Sort.ahead]using hlt)];simp only[putRow,mapBlock,Array.getElem?_modify,if_true];simp only[Go.Sort.ahead,hh,jDm,onCells]
theorem zBb{b k:Nat}(hk:k<w.heap.size)(hne:k≠b)(n:Nat)(F:Array Value)(os:Array Obj):(grow (putRow id (Go.Sort.ahead w n) b 0 F) os).heap[k]?=w.heap[k]?:=by simp only[grow];rw[jDq (by simpa[Go.Sort.ahead]using hk)];simp only[putRow,mapBlock,Array.getElem?_modify,Go.Sort.ahead];rw[if_neg (Ne.symm hne)]
variable{F:Array Value}
theorem zFr(h:F.size<=cur.size):(putCells id 0 F cur).size=cur.size/\(putCells id 0 F cur).toList.take F.size=F.toList:=by
 have hsz:(putCells id 0 F cur).size=cur.size:=by simp[putCells]
 refine⟨hsz,?_⟩;apply jCe;intro i;rw[jBg];split
 .rename_i hi;have hi2:i<cur.size:=by omega
  simp[putCells,hi,hi2]
 .rename_i hi;rw[jB7 (by simp;omega)]
theorem zR9{U:St}(hs:RelSt H L U w){l:Nat}{li:LI}{o:AObj}{w':World}(hl:L[l]?=some li)(hb:li.block=some b)
 (hos:w'.os=w.os)(htape:w'.tape=w.tape)(hout:w'.output=w.output)(hdr:w.drawn<=w'.drawn)(hnd:∀d,w.heap[b]?≠some (.deferred d))(hsz:w.heap.size<=w'.heap.size)(hkeep:∀k,k<w.heap.size->k≠b->w'.heap[k]?=w.heap[k]?)
 (hnone:∀o',H b o'=none)(ho:zV H L w' li o):Nxt H L w H L (U.set l o) w':=by
 have hne:∀(i:Nat) l' b',L[i]?=some l'->l'.block=some b'->i≠l->b'≠b:=fun i l' b' h1 h2 hi e=>hi (hs.inj i l l' li b' h1 hl h2 (by rw[hb,e]))
 refine⟨⟨fun b' o' v hv=>?_,by simp[hs.len],fun i l' o' hL hU=>?_,hs.inj,fun i l' b' h1 h2=>jCb (hs.lt i l' b' h1 h2) hsz⟩,
  ⟨hos,htape,hout,hsz,fun k hk hn=>hkeep k hk (fun e=>hn ⟨l,li,hl,by rw[hb,e]⟩),HLe.refl _,fun _ _ _ h=>.inl h,hdr,fun k d hk=>?_⟩,LLe.refl _,fun _ h=>.inl h⟩
 .have hbb:b'≠b:=fun e=>by subst e;rw[hnone]at hv;cases hv
  have hc:=hs.pers b' o' v hv;have hlt:=hs.h_lt hv;simp only[World.cell?]at hc ⊢;rw[hkeep b' hlt hbb];exact hc
 .by_cases hi:i=l
  .subst hi;rw[hl]at hL;cases hL;rw[jAm (by rw[<-hs.len];exact(jA4.1 hl).1)]at hU;cases hU;exact ho
  .rw[jA9 (Ne.symm hi)]at hU;exact(hs.obj i l' o' hL hU).carry (fun b' hb'=>hkeep b' (hs.lt i l' b' hL hb') (hne i l' b' hL hb' hi)) (HLe.refl _) (LLe.refl _) (fun _ _ _=>rfl)
 .have hks:=(jD5.1 hk).1;by_cases hkb:k=b
  .subst hkb;exact(hnd d hk).elim
  .rw[hkeep k hks hkb];exact hk
variable{f:FuncId}{encA:β->wE}
theorem zJV{sz:Nat}(hsz:0<sz)(hlen:∀b,(encA b).length=sz)(hb:∀b,dK 0 (encA b)=true)(ho:Ord cf)(e:TypeId)
 (hS:zGF P f g encA cf)(hnone:∀(p:Option Addr)(cap:Nat)(fv:Value)(w:World),Calls P f #[.slice p 0 cap,fv] w fun e w'=>e=.returned (.tuple #[])/\w'=w)(l:List β)(hmx:l.length<4611686018427387904) :
 Ret P f [.row 0 l.length,.clo g [] []] [.row false e sz l.length (l.flatMap encA)] (.tup []) [.row false e sz l.length ((oH cf l).flatMap encA)]:=by
 intro H L w vs hs hvs;obtain⟨v,vs',rfl,h1,h2⟩:=qC hvs;obtain⟨fv,vs'',rfl,h3,h4⟩:=qC h2;have:=jK h4;subst this;simp only[Rel]at h3;obtain⟨fs,cs,rfl,k1,k2⟩:=h3;have:=jK k1;subst this;have:=jK k2;subst this;simp only[Rel]at h1;obtain⟨_,li,e1,e2,e3,hv⟩:=h1;have hob:=hs.obj 0 li _ e1 rfl;simp only[zV]at hob;obtain⟨_,hln,hcl,hob⟩:=hob;have hv:=hv hln.symm;have htup:Rel H L (.tup []) (.tuple #[]):=by simp[Rel,z8]
 by_cases hl:l=[]
 .subst hl;have hsl:∃p cap,v=.slice p 0 cap:=by
   rw[hv];split
   .exact⟨_,_,rfl⟩
   .exact⟨_,_,rfl⟩
  obtain⟨p,cap,rfl⟩:=hsl;refine(hnone p cap _ w).mono fun e' w' hh=>?_
  obtain⟨rfl,rfl⟩:=hh;exact⟨.ret (.tup []),_,H,L,⟨_,rfl,htup⟩,Nxt.refl hs,rfl,by simp[oH]⟩
 .rcases hob with ⟨hbk,h0⟩|⟨b,cur,hbk,hh,g1,g2,g3,g4,g5,g6⟩
  .exact(hl (jC5 h0)).elim
  .rw[hbk]at hv;subst hv;obtain⟨us,u1,u2,u3⟩:=zCH hb l _ g4 g5;have hul:us.length=l.length:=by rw[<-u1];simp
   have hus:us≠[]:=fun h=>hl (by rw[<-u1,h];rfl)
   have hlt:=hs.lt 0 li b e1 hbk;have hcell:∀j u,(l9 us)[j]?=some u->w.cell? ⟨b,j,none⟩=some u/\w.frozen? ⟨b,j,none⟩=false:=fun j u hu=>by
    rw[u2,jBg]at hu;split at hu
    .refine⟨?_,by simp[World.frozen?,hh]⟩;rw[cell_of_row w b j cur e (0,0) hh]
     simpa using hu
    .cases hu
   have hmax:us.length<4611686018427387904:=by rw[hul];exact hmx
   have hc:=hS H w b li.cap us (fun b o v=>hs.pers b o v) g6 hlt hus hmax u3 hcell;rw[hul]at hc;refine hc.mono fun e' w' hx=>?_
   obtain⟨rfl,us',n,os,hp,hsrt,rfl⟩:=hx;have u3':zPD H encA us':=fun p hp'=>u3 p (hp.mem_iff.1 hp')
   have hl':(us'.map (·.1))=oH cf l:=by refine zBi ho (by rw[<-u1];exact hp.map _) ?_;rw[jCq];exact hsrt
   obtain⟨j1,j2⟩:=zDP (L:=L) hb u3';rw[hl']at j1;have hfl:(l9 us').length=l.length*sz:=by rw[zAH hlen u3',hp.length_eq,hul]
   have hfit:(l9 us').toArray.size<=cur.size:=by rw[jCa,hfl,g3];exact jBs _ g1
   obtain⟨p1,p2⟩:=zFr hfit;rw[jCa,hfl]at p2;have hnx:=zR9 hs e1 hbk (o:=.row false e sz l.length ((oH cf l).flatMap encA)) (w':=grow (putRow id (Go.Sort.ahead w n) b 0 (l9 us').toArray) os) rfl rfl rfl (by simp[grow,Go.Sort.ahead]) (fun d=>by rw[hh];simp) (by simp[grow,Go.Sort.ahead]) (fun k hk hne=>zBb hk hne n _ os) g6 (by
    simp only[zV];refine⟨e2,hln,?_,.inr ⟨b,_,hbk,zJA hh n _ os,g1,g2,by rw[p1];exact g3,?_,?_,g6⟩⟩
    .rw[<-j1.length,hfl]
    .rw[p2];exact j1
    .rw[p2];exact j2)
   exact⟨.ret (.tup []),_,H,L,⟨_,rfl,htup⟩,hnx,rfl,rfl⟩
theorem zIO{α:Type}{enc : α->wK}{k:Nat}(hk:∀x,(enc x).length=k):∀(l:List α) (i j:Nat) (hi:i<l.length),j<k->(l.flatMap enc)[i*k+j]?=(enc l[i])[j]?
 |[],i,j,hi,_=>by simp at hi
 |x::l,0,j,_,hj=>by rw[jB9,jAj (by rw[hk];omega)];simp
 |x::l,i+1,j,hi,hj=>by
  have hi':i<l.length:=by simpa using hi
  rw[jB9,jAw (by rw[hk,jBv];omega),hk];have:(i+1)*k+j-k=i*k+j:=by rw[jBv];omega
  rw[this,zIO hk l i j hi' hj];rfl
theorem zCz{α:Type}{enc : α->wK}{k:Nat}(hk:∀x,(enc x).length=k):∀(l:List α),(l.flatMap enc).length=l.length*k
 |[]=>by simp
 |x::l=>by rw[jB9,jA5,hk,zCz hk l,jAb,jBv,jCj]
theorem zKN{α:Type} [Inhabited α]{enc : α->wK}{k:Nat}(hk:∀x,(enc x).length=k)(d:Array α):(flatK enc k d).toList=d.toList.flatMap enc:=by
 apply jCe;intro t;rcases jAv t (d.size*k)with ht|ht
 .have k0:0<k:=by
   rcases Nat.eq_zero_or_pos k with h|h
   .subst h;simp at ht
   .exact h
  have hq:t / k<d.toList.length:=by rw[jB2];exact Nat.div_lt_of_lt_mul (by rw[Nat.mul_comm];exact ht)
  have hm:=Nat.mod_lt t k0;have he:t=t / k*k+t % k:=by rw[Nat.mul_comm];exact(Nat.div_add_mod t k).symm
  have h1:(flatK enc k d)[t]! = (enc d[t / k]!)[t % k]! := get_flatK enc k d t ht;have hts:t<(flatK enc k d).size:=by rw[size_flatK];exact ht
  have h2:(d.toList.flatMap enc)[t]?=(enc d.toList[t / k])[t % k]?:=by
   conv=>lhs;rw[he]
   exact zIO hk _ _ _ hq hm
  rw[h2];have hq':t / k<d.size:=by simpa using hq
  have hmm:t % k<(enc d[t / k]).length:=by rw[hk];exact hm
  rw[getElem!_pos _ t hts,getElem!_pos d (t / k) hq',getElem!_pos _ (t % k) hmm]at h1;rw[jCz,Array.getElem?_eq_getElem hts,h1];simp[hmm]
 .rw[jB7 (by simpa using ht),jB7 (by rw[zCz hk];simpa using ht)]
theorem zJ7{α:Type} [Inhabited α]{d d':Array α}(h:PermIn 0 d.size d d'):d'.toList.Perm d.toList:=by
 obtain⟨h1,_,h3⟩:=h;have e1:d'.extract 0 d.size=d':=by rw[<-h1];simp
 rw[e1]at h3
 simpa using h3
theorem zFt{α:Type} [Inhabited α]{lt : α->α->Bool}{d:Array α}{n:Nat}(hn:n=d.size)(h:SortedIn lt 0 n d):d.toList.Pairwise fun x y=>lt y x=false:=by
 subst hn;rw[jCr];intro i j hi hj hij;have hi':i<d.size:=by simpa using hi
 have hj':j<d.size:=by simpa using hj
 have:=h i j (jB3 _) hij hj';rw[getElem!_pos d i hi',getElem!_pos d j hj']at this
 simpa using this
theorem zYK{β:Type}{cf : β->β->Int}(ho:Ord cf) {α:Type}(p : α->β):SWO (Go.Proofs.ltOf fun x y : α=>cf (p x) (p y)) where
 irrefl x:=by simpa[Go.Proofs.ltOf]using ho.irrefl (p x)
 trans x y z h1 h2:=by simp only[Go.Proofs.ltOf,decide_eq_true_eq]at *;exact ho.trans _ _ _ h1 h2
 ntrans x y z h1 h2:=by simp only[Go.Proofs.ltOf,decide_eq_false_iff_not]at *;exact ho.ntrans _ _ _ h1 h2
theorem zN7{b' o:Nat}{n:Nat}{os:Array Obj}{v:Value}(hne:b'≠b)(h:w.cell? ⟨b',o,none⟩=some v):(grow (putRow id (Go.Sort.ahead w n) b 0 F) os).cell? ⟨b',o,none⟩=some v:=by have hlt:=World.block_lt_of_cell? w _ h;simp only[World.cell?]at h⊢;rw[zBb hlt hne];exact h
theorem zSg{k:Nat}(hlen:∀b,(encA b).length=k)(ho:Ord cf)(hcmp:∀a b,Ret P g [.agg (encA a),.agg (encA b)] [] (int (cf a b)) [])
 (hkit:∀(α:Type) [Inhabited α](enc : α->wK)(_:∀x,(enc x).length=k)(_:∀x,∀v∈enc x,v.oneCell'=true)(cf : α->α->Int)(_:SWO (Go.Proofs.ltOf cf))(blk off cap:Nat)(d:Array α)(w:World)
  (_:Go.Proofs.CmpLays P g #[] enc k cf blk off d.size w)(_:HoldsK enc k w blk off d)(_:blk<w.heap.size)(_:d.size<4611686018427387904),
  Calls P f #[.slice (some ⟨blk,off,none⟩) d.size cap,.func (.func g) #[] #[]] w fun e w'=>e=.returned (.tuple #[])/\∃d' n os,PermIn 0 d.size d d'/\SortedIn (Go.Proofs.ltOf cf) 0 d.size d'/\w'=sortWorldK enc k w blk off n d' os):zGF P f g encA cf:=by
 intro H w b cap us hH hnone hlt hus hmax hrel hcell;let α:={p : β×wK // (z8 H [] (encA p.1) p.2/\∀v∈p.2,one v)};let d:Array α:=(us.attach.map fun p=>(⟨p.1,hrel p.1 p.2⟩ : α)).toArray;have hdm:d.toList.map (·.1)=us:=by simp only[d,jCg,Function.comp_def];exact(List.attach_map_val (f:=id)).trans (List.map_id us)
 have hds:d.size=us.length:=by simp[d]
 have:Inhabited α:=⟨⟨us.head hus,hrel _ (List.head_mem hus)⟩⟩;let enc : α->wK:=fun x=>x.1.2
 have hk:∀x,(enc x).length=k:=fun x=>by rw[<-hlen x.1.1];exact x.2.1.length
 have hflat:∀dd:Array α,(flatK enc k dd).toList=l9 (dd.toList.map (·.1)):=fun dd=>by rw[zKN hk,l9,List.flatMap_map]
 have hne:∀b' o v,H b' o=some v->b'≠b:=fun b' o v h e=>by subst e;rw[hnone]at h;cases h
 have hk2:=hkit α enc hk (fun x v hv=>x.2.2 v hv) (fun x y=>cf x.1.1 y.1.1) (zYK ho fun x : α=>x.1.1) b 0 cap d w ?_ ?_ hlt (by rw[hds];exact hmax)
 .rw[hds]at hk2;refine hk2.mono fun e w' hx=>?_
  obtain⟨rfl,d',n,os,hp,hs,rfl⟩:=hx;refine⟨rfl,d'.toList.map (·.1),n,os,?_,?_,?_⟩
  .rw[<-hds]at hp;have:=(zJ7 hp).map (·.1);rw[hdm]at this;exact this
  .rw[jCq];have hsz':us.length=d'.size:=by rw[hp.1,hds]
   exact(zFt hsz' hs).imp fun h=>by simpa[Go.Proofs.ltOf]using h
  .simp only[sortWorldK,putRowK];rw[<-hflat d']
 .intro m os dk hsz x y;have hW:∀b' o v,H b' o=some v->(sortWorldK enc k w b 0 m dk os).cell? ⟨b',o,none⟩=some v:=fun b' o v h=>zN7 (hne b' o v h) (hH b' o v h)
  have:=zJi (hcmp x.1.1 y.1.1) hW (vs:=[.agg (enc x).toArray,.agg (enc y).toArray]) (by
   refine qV ?_ (qV ?_ jR)
   .simp only[Rel];exact⟨_,rfl,x.2.1,x.2.2⟩
   .simp only[Rel];exact⟨_,rfl,y.2.1,y.2.2⟩)
  simpa using this
 .intro j hj;have hj':j<(flatK enc k d).toList.length:=by simpa using hj
  have h1:(l9 us)[j]?=some ((flatK enc k d)[j]!):=by rw[<-hdm,<-hflat d,jA0 hj',getElem!_pos _ j hj];simp
  simpa using hcell j _ h1
end
end Go.Abs
namespace Go.Abs
section
variable{P:Program}{env:Env} {U:St}
end
end Go.Abs
namespace Go.Abs
section
variable{P:Program}{H:Mem}{L:wL} {U:St}{w:World}
theorem jW{n0 t:Nat}{env:Env} {U:St}(ht:env t=.nil)(e:TypeId)(sz:Nat):bQ n0 (env.put (some t) (.row U.length 0)) (U++[AObj.row false e sz 0 []]) env U:=by
 intro H0 L0 w0 H L w N tmps h0 h1 h2;have hn:=gM h1.st e sz;refine⟨H,_,h1.trans hn,h2.1,fun x=>?_⟩;simp only[Env.put];split
 .rename_i hx;subst hx;have:=h2.2 x;rw[ht]at this;simp only[Rel]at this;rw[this];simp only[Rel];exact⟨rfl,⟨none,0,0,true⟩,by rw[<-h1.st.len];simp,rfl,jA _,fun _=>rfl⟩
 .exact Rel.mono (HLe.refl _) hn.lle _ (h2.2 x)
theorem lS{n0:Nat}{env:Env} {U:St}{l o n:Nat}{e:TypeId}{sz:Nat}{cs:wE}(hl : U[l]?=some (.row false e sz n cs))(hc:cs[o]?=some .nil)(e':TypeId)(sz':Nat) :
 bQ n0 env (U.set l (.row false e sz n (cs.set o (.row U.length 0)))++[AObj.row false e' sz' 0 []]) env U:=by
 intro H0 L0 w0 H L w N tmps h0 h1 h2;have hn:=gM h1.st e' sz';have hlt:l < U.length:=(jA4.1 hl).1;have hl':(U++[AObj.row false e' sz' 0 []])[l]?=some (.row false e sz n cs):=by rw[jAj hlt];exact hl
 have hs:=zCa (o':=.row false e sz n (cs.set o (.row U.length 0))) hn.st hl' (fun li hob=>by
  simp only[zV]at hob ⊢;obtain⟨g0,g1,g2,g3⟩:=hob;refine⟨g0,g1,by simpa using g2,?_⟩;rcases g3 with ⟨q1,q2⟩|⟨b,cur,q1,q2,q3,q4,q5,q6,q7,q8⟩
  .subst q2;have:cs=[]:=jC5 (by simpa using g2);subst this;simp at hc
  .obtain⟨v,hv,hrel⟩:=q6.get hc;simp only[Rel]at hrel;subst hrel;have hset:cur.toList.take (n*sz)=(cur.toList.take (n*sz)).set o (.slice none 0 0):=by
    apply jCe;intro i;by_cases hi:i=o
    .subst hi;rw[jAm (jA4.1 hv).1,hv]
    .rw[jA9 (Ne.symm hi)]
   refine .inr ⟨b,cur,q1,q2,q3,q4,q5,?_,q7,q8⟩;rw[hset];refine q6.set o ?_;simp only[Rel];exact⟨rfl,⟨none,0,0,true⟩,by rw[<-h1.st.len];simp,rfl,jA _,fun _=>rfl⟩)
 rw[List.set_append_left _ _ hlt]at hs;have hm:=h1.trans hn;exact⟨H,_,⟨hs,hm.step,hm.lle,hm.own⟩,h2.1,fun x=>Rel.mono (HLe.refl _) hn.lle _ (h2.2 x)⟩
end
end Go.Abs
namespace Go.Abs
section
variable{α:Type}{enc : α->wE}{k:Nat}
theorem fF(hk:∀x,(enc x).length=k):∀(l:List α),(l.flatMap enc).length=l.length*k
 |[]=>by simp
 |x::l=>by rw[jB9,jA5,hk,fF hk l,jAb,jBv,jCj]
theorem fR(hk:∀x,(enc x).length=k):∀{l:List α} {i:Nat} (h:i<l.length),(l.flatMap enc).drop (i*k)=enc l[i]++(l.drop (i+1)).flatMap enc
 |x::l,0,h=>by simp
 |x::l,i+1,h=>by rw[jBv,jCj,jB9,<-jBb,jD4 (hk x),fR hk (by simpa using h)];simp
theorem iI(hk:∀x,(enc x).length=k){l:List α}{i:Nat}(h:i<l.length):(l.take (i+1)).flatMap enc=(l.take i).flatMap enc++enc l[i]:=by rw[jA8 h,jBw];simp
theorem zI6(hk:∀x,(enc x).length=k):∀{l:List α} {i:Nat} (x : α),i<l.length->(l.flatMap enc).take (i*k)++(enc x++(l.flatMap enc).drop (i*k+k))=(l.set i x).flatMap enc
 |y::l,0,x,h=>by simp[jD4 (hk y)]
 |y::l,i+1,x,h=>by have:=zI6 hk (l:=l) (i:=i) x (by simpa using h);rw[List.set_cons_succ,jB9,jB9,<-this,jBv,jCj (i*k) k,List.take_add,List.take_left' (hk y),jD4 (hk y),jBp k,<-jBb,jD4 (hk y),jAp,jCj k (i*k)]
theorem cW(hp:∀x,qP (enc x)):∀(l:List α),qP (l.flatMap enc)
 |[]=>qP.nil
 |x::l=>by
  have h1:=hp x;have h2:=cW hp l;refine⟨?_,fun rf g=>?_⟩
  .rw[jB9,zHq,h1.1,h2.1]
  .rw[jB9,zLY,h1.2,h2.2]
end
end Go.Abs
namespace Go.Abs
section
variable{P:Program}
end
end Go.Abs
namespace Go.Abs
open Go.Proofs
section
variable{P:Program}{H:Mem}{L:wL} {U:St}{w:World}
theorem zOC(hs:RelSt H L U w)(ob:AObj)(o:Obj)(li:LI)(hli:li.block=some w.heap.size)(ho:zV H (L++[li]) (w.alloc o) li ob):Nxt H L w H (L++[li]) (U++[ob]) (w.alloc o):=by
 have hll:=LLe.append L [li];refine⟨⟨fun b o v hv=>?_,by simp[hs.len],fun i l o hL hU=>?_,fun i j l l' b hi hj hb hb'=>?_,fun i l b hL hb=>?_⟩,
  ⟨rfl,rfl,rfl,by simp,fun k hk _=>heap_alloc_old w _ (h:=hk),HLe.refl _,fun b o v hv=>.inl hv,jA _,nZ (fun k hk=>heap_alloc_old w _ (h:=hk))⟩,hll,fun b ⟨i,l,hL,hb⟩=>?_⟩
 .rw[World.cell?_alloc_lt _ _ _ (hs.h_lt hv)];exact hs.pers b o v hv
 .rcases jL hL with hL'|⟨rfl,rfl⟩
  .have hi:i<L.length:=(jA4.1 hL').1;rw[jAj (by rw[<-hs.len];exact hi)]at hU;exact(hs.obj i l o hL' hU).carry (fun b hb=>heap_alloc_old w _ (h:=hs.lt i l b hL' hb)) (HLe.refl _) hll (fun _ _ _=>rfl)
  .rw[hs.len]at hU;rw[jAw (jA _)]at hU;simp only[jBx,jB,jA2]at hU;subst hU;exact ho
 .rcases jL hi with hi'|⟨rfl,rfl⟩
  .rcases jL hj with hj'|⟨rfl,rfl⟩
   .exact hs.inj i j l l' b hi' hj' hb hb'
   .rw[hli]at hb';cases hb';have:=hs.lt i l _ hi' hb;omega
  .rw[hli]at hb;cases hb;rcases jL hj with hj'|⟨rfl,rfl⟩
   .have:=hs.lt j l' _ hj' hb';omega
   .rfl
 .rcases jL hL with hL'|⟨rfl,rfl⟩
  .have:=hs.lt i l b hL' hb;simp;omega
  .rw[hli]at hb;cases hb;simp
 .rcases jL hL with hL'|⟨rfl,rfl⟩
  .exact .inl ⟨i,l,hL',hb⟩
  .rw[hli]at hb;cases hb;exact .inr (jA _)
variable{ρ:Go.Shelf.Ren}
theorem zQV(LL:Lays8.n4 P ρ){i:TypeInfo}{z:Value}(hi:P.info? (ρ.t 25)=some i)(hz:i.zero=some z)(hzs:z.cells.size=i.size)(h0:0<i.size){n:Nat}(hb:n*i.bytes<=140737488355328)(hn63:n<=4611686018427387904) :
 Ret P (ρ.f 4) [.nil,.lit (.int .i64 n)] [] (.row 0 0) [.row false (ρ.t 25) i.size 0 []]:=by
 intro H L w vs hs hvs;obtain⟨v,vs',rfl,h1,h2⟩:=qC hvs;obtain⟨u,vs'',rfl,h3,h4⟩:=qC h2;have:=jK h4;subst this;simp only[Rel]at h1 h3;subst h1 h3;have hL:L=[]:=jC5 (by rw[hs.len];rfl);subst hL;have hn:n<=maxLen:=by simp only[maxLen];omega
 by_cases hz0:n=0
 .subst hz0;refine(Any8.slices_Grow_room LL none 0 0 0 w (jA _) (by omega) (by omega) (by omega)).mono fun e w' hh=>?_
  obtain⟨rfl,rfl⟩:=hh;have hnx:=gM hs (ρ.t 25) i.size;refine⟨.ret (.row 0 0),_,H,_,⟨_,rfl,?_⟩,hnx,rfl,rfl⟩;simp only[Rel];exact⟨rfl,⟨none,0,0,true⟩,by simp,rfl,jA _,fun _=>rfl⟩
 .refine(Any8.slices_Grow_grow LL i z hi hz h0 none 0 0 n [] w (jA _) (by omega) (by rw[jAz];exact hb) (by omega) (by simp) (fun _=>rfl) (fun a ha=>by cases ha)).mono fun e w' hh=>?_
  obtain⟨rfl,rfl⟩:=hh;have hge:=grownCap_ge w (0+n) 0 (ρ.t 25);have hcm:grownCap w (0+n) 0 (ρ.t 25)<=maxLen:=grownCap_le_maxLen w (0+n) 0 (ρ.t 25) (by omega);generalize grownCap w (0+n) 0 (ρ.t 25)=cap at hge hcm ⊢;have hd:=zAT hs;have hnx:=zOC hd.st (.row false (ρ.t 25) i.size 0 []) (.cells ((([]:wK).toArray++Builtin.zeroCells z.cells (0+n-0)++Builtin.zeroCells z.cells (cap-(0+n)))) (ρ.t 25)) ⟨some w.heap.size,cap,0,true⟩ rfl (by
   simp only[zV];refine⟨trivial,trivial,by simp,.inr ⟨w.heap.size,_,rfl,heap_alloc_new w.drew _,jB3 _,hcm,?_,?_,?_,fun o=>?_⟩⟩
   .simp only[Array.size_append,size_zeroCells,hzs];simp only[jCa,jBc,jAz,Nat.sub_zero,<-jB1]
    congr 1
    omega
   .simp[z8]
   .simp
   .cases hH:H w.heap.size o with
    |none=>rfl
    |some v=>have:=hs.h_lt hH;omega)
  have hnx:=hd.trans hnx;refine⟨.ret (.row 0 0),_,H,_,⟨_,rfl,?_⟩,hnx,rfl,rfl⟩;simp only[Rel];exact⟨rfl,⟨some w.heap.size,cap,0,true⟩,by simp,rfl,jA _,fun _=>rfl⟩
theorem zOp(LL:Lays8.n4 P ρ){sz bs:Nat}{z:Value}(hi:(P.info? (ρ.t 25)).map (fun i=>(i.size,i.bytes,i.zero))=some (sz,bs,some z))(hzs:z.cells.size=sz)(h0:0<sz){n:Nat}(hb:n*bs<=140737488355328)(hn63:n<=4611686018427387904) :
 Ret P (ρ.f 4) [.nil,.lit (.int .i64 n)] [] (.row 0 0) [.row false (ρ.t 25) sz 0 []]:=by
 rw[jAf]at hi;obtain⟨i,h1,h2⟩:=hi;simp only[jBt]at h2;obtain⟨rfl,rfl,h3⟩:=h2;exact zQV LL h1 h3 hzs h0 hb hn63
end
end Go.Abs
namespace Go.Proofs.YtdnelmeboihpkaaGreatDoor
open Go.Abs
theorem qA(n:Int)(h : -9223372036854775808<=n/\n<=9223372036854775807):IntKind.i64.wrap n=n:=IntWalk.i64_in _ h
theorem yK(n:Nat)(h:n<9000000000000000000):IntKind.i64.wrap ((n:Int)+1)=(n:Int)+1:=IntWalk.i64_in _ (by omega)
def w64(n:Int):Int:=IntKind.i64.wrap n
def oG(a b c a' b' c':Int):Bool:=decide (Id.mk a b c=Id.mk a' b' c')
@[simp]theorem cC{x y:Id}:oG x.a x.b x.c y.a y.b y.c=decide (x=y):=rfl
def Id.zero:Id:=⟨0,0,0⟩
@[simp]theorem zY7{x:Id}:oG x.a x.b x.c 0 0 0=decide (x=Id.zero):=rfl
@[simp]theorem Id.zero_a:Id.zero.a=0:=rfl
@[simp]theorem Id.zero_b:Id.zero.b=0:=rfl
@[simp]theorem Id.zero_c:Id.zero.c=0:=rfl
@[simp]theorem qFF:oG 0 0 0 0 0 0=true:=rfl
@[simp]theorem zTe{a b c a' b' c':Int}:zGS [.i,.i,.i] false (.agg [.lit (.int .i64 a),.lit (.int .i64 b),.lit (.int .i64 c)]) (.agg [.lit (.int .i64 a'),.lit (.int .i64 b'),.lit (.int .i64 c')]) =
 some (.lit (.bool (oG a b c a' b' c'))):=by simp[zGS,aP,gI,eD,oG]
@[simp]theorem qDU{a b c a' b' c':Int}:zGS [.i,.i,.i] true (.agg [.lit (.int .i64 a),.lit (.int .i64 b),.lit (.int .i64 c)]) (.agg [.lit (.int .i64 a'),.lit (.int .i64 b'),.lit (.int .i64 c')]) =
 some (.lit (.bool (!oG a b c a' b' c'))):=by simp[zGS,aP,gI,eD,oG]
def bO(n k:Int):Int:=(if n<0 then w64 (0-w64 (n+1))else n).tmod k
theorem zBv(n k:Int)(hk:0<k):my 12 [int n,int k] [] (int (bO n k)) []:=by
 refine mq [] [.slot 4] func12 (by kernel_rfl) ?_
 (conv in kq _ _=>cbv)
 have h0:¬k=0:=by omega
 by_cases h:n<0
 .simp[h,h0];exact zA 0 (by simp[bO,h,w64])
 .simp[h,h0];exact zA 0 (by simp[bO,h])
theorem rA{n k:Int}(hn:w64 n=n)(hk:0<k):0<=bO n k/\bO n k<k:=by
 unfold bO;have h:0<=(if n<0 then w64 (0-w64 (n+1))else n):=by simp only[w64,IntKind.wrap_i64]at hn ⊢;split<;>omega
 exact⟨Int.tmod_nonneg _ h,Int.tmod_lt_of_pos _ hk⟩
def lV:List Id->Id->wF
 |[],x=>[x]
 |y::l,x=>if bP y x=true then y::lV l x else if y=x then y::l else x::y::l
def zHy:List Id->Id->Nat
 |[],_=>0
 |y::l,x=>if bP y x=true then zHy l x+1 else 0
theorem zNd:∀(l:wF) (x:Id),zHy l x<=l.length
 |[],x=>by simp[zHy]
 |y::l,x=>by have:=zNd l x;simp only[zHy,jAb];split<;>omega
theorem zJb:∀(l:wF) (x:Id),lV l x=if l[zHy l x]?=some x then l else l.take (zHy l x)++x::l.drop (zHy l x)
 |[],x=>by simp[lV,zHy]
 |y::l,x=>by
  simp only[lV,zHy];by_cases h:bP y x=true
  .simp only[h,if_true,jBo,zJb l x,jC9,List.drop_succ_cons];split<;>simp
  .simp only[h];by_cases hy:y=x<;>simp[hy]
theorem zRg(l:wF)(x:Id):(lV l x).length<=l.length+1:=by
 rw[zJb];have:=zNd l x;split
 .omega
 .simp;omega
theorem zMp:∀(l acc:wF),(l.foldl lV acc).length<=acc.length+l.length
 |[],acc=>by simp
 |x::l,acc=>by have h1:=zMp l (lV acc x);have h2:=zRg acc x;simp only[jBk,jAb];omega
end Go.Proofs.YtdnelmeboihpkaaGreatDoor
