/-
  slices.SortFunc: the kit's contracts as contracts over abstract states.
  An evaluator of small code at closed abstract states: its operations.
  Nil slices as rows of their own; rows that are frozen.
  Cells of lists whose elements have so many cells each.
  Contracts of functions whose result may be any of several.
  slices.Grow of a nil slice, as a contract over abstract states.
  The reference's sets of IDs, and the law's lists of IDs.
-/
import Derived.Test.YtdnelmeboihpkaaGreatDoorX8
import Derived.Shelf.SlSortCmp.NoneTotal
import Derived.Test.YtdnelmeboihpkaaGreatDoorX3
import Derived.Shelf.Spec.SlicesGrow
set_option linter.unusedVariables false
set_option maxHeartbeats 8000000
set_option maxRecDepth 100000
set_option linter.unusedSimpArgs false
namespace Go.Abs
open Go.Sort Go.Proofs
section
variable {P:Program} {β : Type}{H:Mem}{L:List LI}{w:World}
theorem zPN {g:FuncId}{args:List A}{r:Int}(h:Ret P g args [] (int r) []){vs:List Value}{W:World}(hH:∀b o v,H b o=some v→W.cell? ⟨b,o,none⟩=some v)(hvs:zT H [] args vs) :
 Calls P g vs.toArray W fun e w'=>e=.returned (.int .i64 r)∧∃q os',w'=grow (W.drewN q) os':=by
 have hs:RelSt H [] [] W:=⟨hH,rfl,fun i l o hl=>by simp at hl,fun i j l l' b hl=>by simp at hl,fun i l b hl=>by simp at hl⟩;refine(h H [] W vs hs hvs).mono fun e w' hh=>?_
 obtain⟨o,σ',H',L',ho,hn,rfl,rfl⟩:=hh;obtain⟨v,rfl,hv⟩:=ho;simp only[int,Rel]at hv;subst hv;refine⟨rfl,w'.drawn-W.drawn,w'.heap.extract W.heap.size w'.heap.size,?_⟩;have hh:w'.heap=W.heap++w'.heap.extract W.heap.size w'.heap.size:=by
  apply Array.ext_getElem?;intro k;rcases jAq k W.heap.size with hk | hk
  ·rw[jDh hk];exact hn.step.keep k hk (fun⟨i,l,hi,_⟩=>by simp at hi)
  ·rw[Array.getElem?_append_right hk,Array.getElem?_extract];split
   ·congr 1; omega
   ·rw[Array.getElem?_eq_none]; omega
 have h1:=hn.step.os;have h2:=hn.step.tape;have h3:=hn.step.output;have h4:=hn.step.drawn;cases w' with
 | mk heap tape drawn os output =>
  cases W with
  | mk heap' tape' drawn' os' output' =>
   simp only at h1 h2 h3 h4 hh;simp only[grow,World.drewN,World.mk.injEq];exact⟨hh,h2,by omega,h1,h3⟩
def zDm (us:List (β×List Value)):List Value:=us.flatMap (·.2)
@[simp] theorem qFi:zDm ([]:List (β×List Value))=[]:=rfl
@[simp] theorem zRu {p : β×List Value}{us:List (β×List Value)}:zDm (p::us)=p.2++zDm us:=rfl
def zV1 (H:Mem)(encA : β→List A)(us:List (β×List Value)):Prop:=∀p∈us,zT H [] (encA p.1) p.2∧∀v∈p.2,one v
theorem zKa {encA : β→List A}(hb:∀b,zBq 0 (encA b)=true):∀(l:List β) (vs:List Value),zT H L (l.flatMap encA) vs→(∀v∈vs,one v)→∃us:List (β×List Value),us.map (·.1)=l∧zDm us=vs∧zV1 H encA us
 | [],vs,h,_=>⟨[],rfl,(jK h).symm,fun p hp=>by simp at hp⟩
 | b::l,vs,h,h1=>by
  rw[jBi]at h;obtain⟨us,ws,rfl,k1,k2⟩:=h.split;obtain⟨rest,r1,r2,r3⟩:=zKa hb l ws k2 (fun v hv=>h1 v (List.mem_append_right _ hv));refine⟨(b,us)::rest,by simp[r1],by simp[r2],fun p hp=>?_⟩;rcases jA5.1 hp with rfl | hp
  ·exact⟨zT.levels (k:=0) (fun l hl=>by omega) _ (hb b) k1,fun v hv=>h1 v (jBf _ hv)⟩
  ·exact r3 p hp
theorem zLj {encA : β→List A}(hb:∀b,zBq 0 (encA b)=true):∀{us:List (β×List Value)},zV1 H encA us→zT H L ((us.map (·.1)).flatMap encA) (zDm us)∧∀v∈zDm us,one v
 | [],_=>⟨jM,by simp⟩
 | p::us,h=>by
  obtain⟨k1,k2⟩:=h p (jAm ..);obtain⟨r1,r2⟩:=zLj hb (us:=us) fun q hq=>h q (jAg _ hq)
  refine⟨?_,fun v hv=>?_⟩
  ·simp only[jAc,jBi,zRu];exact(zT.levels (k:=0) (fun l hl=>by omega) _ (hb p.1) k1).append r1
  ·rcases jAe.1 hv with hv | hv
   ·exact k2 v hv
   ·exact r2 v hv
theorem zIe {encA : β→List A}{sz:Nat}(hlen:∀b,(encA b).length=sz):∀{us:List (β×List Value)},zV1 H encA us→(zDm us).length=us.length*sz
 | [],_=>by simp
 | p::us,h=>by have:=(h p (jAm ..)).1.length;simp[this,hlen,zIe hlen (us:=us) fun q hq=>h q (jAg _ hq),jBj,jCt]
def zN9 (P:Program)(f g:FuncId)(encA : β→List A)(cf : β→β→Int):Prop :=
 ∀(H:Mem) (w:World) (b cap:Nat) (us:List (β×List Value)),(∀b o v,H b o=some v→w.cell? ⟨b,o,none⟩=some v)→(∀o,H b o=none)→b<w.heap.size→us≠[]→us.length<4611686018427387904→zV1 H encA us →
  (∀j u,(zDm us)[j]?=some u→w.cell? ⟨b,j,none⟩=some u∧w.frozen? ⟨b,j,none⟩=false) →
  Calls P f #[.slice (some ⟨b,0,none⟩) us.length cap,.func (.func g) #[] #[]] w fun e w'=>e=.returned (.tuple #[]) ∧
   ∃(us':List (β×List Value)) (n:Nat) (os:Array Obj),us'.Perm us∧us'.Pairwise (fun x y=>¬cf y.1 x.1<0)∧w'=grow (putRow id (Go.Sort.ahead w n) b 0 (zDm us').toArray) os
def zEm (cf : β→β→Int)(l:List β):List β:=l.mergeSort fun x y=>!decide (cf y x<0)
structure Ord (cf : β→β→Int):Prop where
 irrefl:∀x,¬cf x x<0
 trans:∀x y z,cf x y<0→cf y z<0→cf x z<0
 ntrans:∀x y z,¬cf x y<0→¬cf y z<0→¬cf x z<0
 anti:∀x y,¬cf x y<0→¬cf y x<0→x=y
theorem zI5 {cf : β→β→Int}(ho:Ord cf){l l':List β}(hp:l'.Perm l)(hs:l'.Pairwise fun x y=>¬cf y x<0):l'=zEm cf l:=by
 have h1:=List.pairwise_mergeSort (le:=fun x y=>!decide (cf y x<0)) (fun a b c h1 h2=>by simp only[jBd,decide_eq_false_iff_not]at *; exact ho.ntrans c b a h2 h1)
  (fun a b=>by
   simp only[jAu,jBd,decide_eq_false_iff_not];by_cases h:cf b a<0
   ·exact .inr fun h'=>ho.irrefl _ (ho.trans _ _ _ h h')
   ·exact .inl h) l
 refine List.Perm.eq_of_pairwise (le:=fun x y=>¬cf y x<0) (fun a b _ _ h1 h2=>ho.anti a b h2 h1) hs ?_ (hp.trans (List.mergeSort_perm l _).symm);exact h1.imp (fun h=>by simpa using h)
theorem zQp {b:Nat}{cur:Array Value}{e:TypeId}(hh:w.heap[b]?=some (.cells cur e (0,0)))(n:Nat)(F:Array Value)(os:Array Obj) :
 (grow (putRow id (Go.Sort.ahead w n) b 0 F) os).heap[b]?=some (.cells (putCells id 0 F cur) e (0,0)):=by
 have hlt:b<w.heap.size:=(jCz.1 hh).1;simp only[grow];rw[jDh (by simpa [Go.Sort.ahead] using hlt)];simp only[putRow,mapBlock,Array.getElem?_modify,if_true];simp only[Go.Sort.ahead,hh,jCx,onCells]
theorem zIv {b k:Nat}(hk:k<w.heap.size)(hne:k≠b)(n:Nat)(F:Array Value)(os:Array Obj):(grow (putRow id (Go.Sort.ahead w n) b 0 F) os).heap[k]?=w.heap[k]?:=by simp only[grow];rw[jDh (by simpa [Go.Sort.ahead] using hk)];simp only[putRow,mapBlock,Array.getElem?_modify,Go.Sort.ahead];rw[if_neg (Ne.symm hne)]
theorem zMp {F cur:Array Value}(h:F.size≤cur.size):(putCells id 0 F cur).size=cur.size∧(putCells id 0 F cur).toList.take F.size=F.toList:=by
 have hsz:(putCells id 0 F cur).size=cur.size:=by simp[putCells]
 refine⟨hsz,?_⟩;apply jC8;intro i;rw[jB8];split
 ·rename_i hi;have hi2:i<cur.size:=by omega
  simp[putCells,hi,hi2]
 ·rename_i hi;rw[jB9 (by simp; omega)]
theorem zXq {σ : St}(hs:RelSt H L σ w){l:Nat}{li:LI}{b:Nat}{o:AObj}{w':World}(hl:L[l]?=some li)(hb:li.block=some b)
 (hos:w'.os=w.os)(htape:w'.tape=w.tape)(hout:w'.output=w.output)(hdr:w.drawn≤w'.drawn)(hnd:∀d,w.heap[b]?≠some (.deferred d))(hsz:w.heap.size≤w'.heap.size)(hkeep:∀k,k<w.heap.size→k≠b→w'.heap[k]?=w.heap[k]?)
 (hnone:∀o',H b o'=none)(ho:zN H L w' li o):Nxt H L w H L (σ.set l o) w':=by
 have hne:∀(i:Nat) l' b',L[i]?=some l'→l'.block=some b'→i≠l→b'≠b:=fun i l' b' h1 h2 hi e=>hi (hs.inj i l l' li b' h1 hl h2 (by rw[hb,e]))
 refine⟨⟨fun b' o' v hv=>?_,by simp[hs.len],fun i l' o' hL hσ=>?_,hs.inj,fun i l' b' h1 h2=>jBy (hs.lt i l' b' h1 h2) hsz⟩,
  ⟨hos,htape,hout,hsz,fun k hk hn=>hkeep k hk (fun e=>hn ⟨l,li,hl,by rw[hb,e]⟩),HLe.refl _,fun _ _ _ h=>.inl h,hdr,fun k d hk=>?_⟩,LLe.refl _,fun _ h=>.inl h⟩
 ·have hbb:b'≠b:=fun e=>by subst e; rw[hnone]at hv; cases hv
  have hc:=hs.pers b' o' v hv;have hlt:=hs.h_lt hv;simp only[World.cell?]at hc ⊢;rw[hkeep b' hlt hbb];exact hc
 ·by_cases hi:i=l
  ·subst hi;rw[hl]at hL;cases hL;rw[jAj (by rw[←hs.len]; exact(jA1.1 hl).1)]at hσ;cases hσ;exact ho
  ·rw[jA8 (Ne.symm hi)]at hσ;exact(hs.obj i l' o' hL hσ).carry (fun b' hb'=>hkeep b' (hs.lt i l' b' hL hb') (hne i l' b' hL hb' hi)) (HLe.refl _) (LLe.refl _) (fun _ _ _=>rfl)
 ·have hks:=(jCz.1 hk).1;by_cases hkb:k=b
  ·subst hkb; exact(hnd d hk).elim
  ·rw[hkeep k hks hkb]; exact hk
theorem zQ8 {f g:FuncId}{encA : β→List A}{cf : β→β→Int}{sz:Nat}(hsz:0<sz)(hlen:∀b,(encA b).length=sz)(hb:∀b,zBq 0 (encA b)=true)(ho:Ord cf)(e:TypeId)
 (hS:zN9 P f g encA cf)(hnone:∀(p:Option Addr)(cap:Nat)(fv:Value)(w:World),Calls P f #[.slice p 0 cap,fv] w fun e w'=>e=.returned (.tuple #[])∧w'=w)(l:List β)(hmx:l.length<4611686018427387904) :
 Ret P f [.row 0 l.length,.clo g [] []] [.row false e sz l.length (l.flatMap encA)] (.tup []) [.row false e sz l.length ((zEm cf l).flatMap encA)]:=by
 intro H L w vs hs hvs;obtain⟨v,vs',rfl,h1,h2⟩:=zV hvs;obtain⟨fv,vs'',rfl,h3,h4⟩:=zV h2;have:=jK h4;subst this;simp only[Rel]at h3;obtain⟨fs,cs,rfl,k1,k2⟩:=h3;have:=jK k1;subst this;have:=jK k2;subst this;simp only[Rel]at h1;obtain⟨_,li,e1,e2,e3,hv⟩:=h1;have hob:=hs.obj 0 li _ e1 rfl;simp only[zN]at hob;obtain⟨_,hln,hcl,hob⟩:=hob;have hv:=hv hln.symm;have htup:Rel H L (.tup []) (.tuple #[]):=by simp[Rel,zT]
 by_cases hl:l=[]
 ·subst hl;have hsl:∃p cap,v=.slice p 0 cap:=by
   rw[hv];split
   ·exact⟨_,_,rfl⟩
   ·exact⟨_,_,rfl⟩
  obtain⟨p,cap,rfl⟩:=hsl;refine(hnone p cap _ w).mono fun e' w' hh=>?_
  obtain⟨rfl,rfl⟩:=hh;exact⟨.ret (.tup []),_,H,L,⟨_,rfl,htup⟩,Nxt.refl hs,rfl,by simp[zEm]⟩
 ·rcases hob with ⟨hbk,h0⟩ | ⟨b,cur,hbk,hh,g1,g2,g3,g4,g5,g6⟩
  ·exact(hl (jC7 h0)).elim
  ·rw[hbk]at hv;subst hv;obtain⟨us,u1,u2,u3⟩:=zKa hb l _ g4 g5;have hul:us.length=l.length:=by rw[←u1]; simp
   have hus:us≠[]:=fun h=>hl (by rw[←u1,h]; rfl)
   have hlt:=hs.lt 0 li b e1 hbk;have hcell:∀j u,(zDm us)[j]?=some u→w.cell? ⟨b,j,none⟩=some u∧w.frozen? ⟨b,j,none⟩=false:=fun j u hu=>by
    rw[u2,jB8]at hu;split at hu
    ·refine⟨?_,by simp[World.frozen?,hh]⟩;rw[cell_of_row w b j cur e (0,0) hh]
     simpa using hu
    ·cases hu
   have hmax:us.length<4611686018427387904:=by rw[hul]; exact hmx
   have hc:=hS H w b li.cap us (fun b o v=>hs.pers b o v) g6 hlt hus hmax u3 hcell;rw[hul]at hc;refine hc.mono fun e' w' hx=>?_
   obtain⟨rfl,us',n,os,hp,hsrt,rfl⟩:=hx;have u3':zV1 H encA us':=fun p hp'=>u3 p (hp.mem_iff.1 hp')
   have hl':(us'.map (·.1))=zEm cf l:=by refine zI5 ho (by rw[←u1]; exact hp.map _) ?_;rw[jDe];exact hsrt
   obtain⟨j1,j2⟩:=zLj (L:=L) hb u3';rw[hl']at j1;have hfl:(zDm us').length=l.length*sz:=by rw[zIe hlen u3',hp.length_eq,hul]
   have hfit:(zDm us').toArray.size≤cur.size:=by rw[jBv,hfl,g3];exact jB7 _ g1
   obtain⟨p1,p2⟩:=zMp hfit;rw[jBv,hfl]at p2;have hnx:=zXq hs e1 hbk (o:=.row false e sz l.length ((zEm cf l).flatMap encA)) (w':=grow (putRow id (Go.Sort.ahead w n) b 0 (zDm us').toArray) os) rfl rfl rfl (by simp[grow,Go.Sort.ahead]) (fun d=>by rw[hh]; simp) (by simp[grow,Go.Sort.ahead]) (fun k hk hne=>zIv hk hne n _ os) g6 (by
    simp only[zN];refine⟨e2,hln,?_,.inr ⟨b,_,hbk,zQp hh n _ os,g1,g2,by rw[p1]; exact g3,?_,?_,g6⟩⟩
    ·rw[←j1.length,hfl]
    ·rw[p2]; exact j1
    ·rw[p2]; exact j2)
   exact⟨.ret (.tup []),_,H,L,⟨_,rfl,htup⟩,hnx,rfl,rfl⟩
theorem zP9 {α : Type}{enc : α→List Value}{k:Nat}(hk:∀x,(enc x).length=k):∀(l:List α) (i j:Nat) (hi:i<l.length),j<k→(l.flatMap enc)[i*k+j]?=(enc l[i])[j]?
 | [],i,j,hi,_=>by simp at hi
 | x::l,0,j,_,hj=>by rw[jBi,jAd (by rw[hk]; omega)];simp
 | x::l,i+1,j,hi,hj=>by
  have hi':i<l.length:=by simpa using hi
  rw[jBi,jAr (by rw[hk,jBj]; omega),hk];have:(i+1)*k+j-k=i*k+j:=by rw[jBj]; omega
  rw[this,zP9 hk l i j hi' hj];rfl
theorem zJH {α : Type}{enc : α→List Value}{k:Nat}(hk:∀x,(enc x).length=k):∀(l:List α),(l.flatMap enc).length=l.length*k
 | []=>by simp
 | x::l=>by rw[jBi,jA7,hk,zJH hk l,jAl,jBj,jCt]
theorem zRt {α : Type} [Inhabited α]{enc : α→List Value}{k:Nat}(hk:∀x,(enc x).length=k)(d:Array α):(flatK enc k d).toList=d.toList.flatMap enc:=by
 apply jC8;intro t;rcases jAq t (d.size*k)with ht | ht
 ·have k0:0<k:=by
   rcases Nat.eq_zero_or_pos k with h | h
   ·subst h; simp at ht
   ·exact h
  have hq:t / k<d.toList.length:=by rw[jAy]; exact Nat.div_lt_of_lt_mul (by rw[Nat.mul_comm]; exact ht)
  have hm:=Nat.mod_lt t k0;have he:t=t / k*k+t % k:=by rw[Nat.mul_comm]; exact(Nat.div_add_mod t k).symm
  have h1:(flatK enc k d)[t]! = (enc d[t / k]!)[t % k]! := get_flatK enc k d t ht;have hts:t<(flatK enc k d).size:=by rw[size_flatK]; exact ht
  have h2:(d.toList.flatMap enc)[t]?=(enc d.toList[t / k])[t % k]?:=by
   conv=>lhs; rw[he]
   exact zP9 hk _ _ _ hq hm
  rw[h2];have hq':t / k<d.size:=by simpa using hq
  have hmm:t % k<(enc d[t / k]).length:=by rw[hk]; exact hm
  rw[getElem!_pos _ t hts,getElem!_pos d (t / k) hq',getElem!_pos _ (t % k) hmm]at h1;rw[jCr,Array.getElem?_eq_getElem hts,h1];simp[hmm]
 ·rw[jB9 (by simpa using ht),jB9 (by rw[zJH hk]; simpa using ht)]
theorem zQm {α : Type} [Inhabited α]{d d':Array α}(h:PermIn 0 d.size d d'):d'.toList.Perm d.toList:=by
 obtain⟨h1,_,h3⟩:=h;have e1:d'.extract 0 d.size=d':=by rw[←h1]; simp
 rw[e1]at h3
 simpa using h3
theorem zMq {α : Type} [Inhabited α]{lt : α→α→Bool}{d:Array α}{n:Nat}(hn:n=d.size)(h:SortedIn lt 0 n d):d.toList.Pairwise fun x y=>lt y x=false:=by
 subst hn;rw[jCn];intro i j hi hj hij;have hi':i<d.size:=by simpa using hi
 have hj':j<d.size:=by simpa using hj
 have:=h i j (jB _) hij hj';rw[getElem!_pos d i hi',getElem!_pos d j hj']at this
 simpa using this
theorem qEh {β : Type}{cf : β→β→Int}(ho:Ord cf) {α : Type}(p : α→β):SWO (Go.Proofs.ltOf fun x y : α=>cf (p x) (p y)) where
 irrefl x:=by simpa [Go.Proofs.ltOf] using ho.irrefl (p x)
 trans x y z h1 h2:=by simp only[Go.Proofs.ltOf,decide_eq_true_eq]at *; exact ho.trans _ _ _ h1 h2
 ntrans x y z h1 h2:=by simp only[Go.Proofs.ltOf,decide_eq_false_iff_not]at *; exact ho.ntrans _ _ _ h1 h2
theorem zTJ {b b' o:Nat}{F:Array Value}{n:Nat}{os:Array Obj}{v:Value}(hne:b'≠b)(h:w.cell? ⟨b',o,none⟩=some v):(grow (putRow id (Go.Sort.ahead w n) b 0 F) os).cell? ⟨b',o,none⟩=some v:=by have hlt:=World.block_lt_of_cell? w _ h;simp only[World.cell?]at h⊢;rw[zIv hlt hne];exact h
theorem zXL {f g:FuncId}{encA : β→List A}{cf : β→β→Int}{k:Nat}(hlen:∀b,(encA b).length=k)(ho:Ord cf)(hcmp:∀a b,Ret P g [.agg (encA a),.agg (encA b)] [] (int (cf a b)) [])
 (hkit:∀(α : Type) [Inhabited α](enc : α→List Value)(_:∀x,(enc x).length=k)(_:∀x,∀v∈enc x,v.oneCell'=true)(cf : α→α→Int)(_:SWO (Go.Proofs.ltOf cf))(blk off cap:Nat)(d:Array α)(w:World)
  (_:Go.Proofs.CmpLays P g #[] enc k cf blk off d.size w)(_:HoldsK enc k w blk off d)(_:blk<w.heap.size)(_:d.size<4611686018427387904),
  Calls P f #[.slice (some ⟨blk,off,none⟩) d.size cap,.func (.func g) #[] #[]] w fun e w'=>e=.returned (.tuple #[])∧∃d' n os,PermIn 0 d.size d d'∧SortedIn (Go.Proofs.ltOf cf) 0 d.size d'∧w'=sortWorldK enc k w blk off n d' os):zN9 P f g encA cf:=by
 intro H w b cap us hH hnone hlt hus hmax hrel hcell;let α:={p : β×List Value // (zT H [] (encA p.1) p.2∧∀v∈p.2,one v)};let d:Array α:=(us.attach.map fun p=>(⟨p.1,hrel p.1 p.2⟩ : α)).toArray;have hdm:d.toList.map (·.1)=us:=by simp only[d,jCc,Function.comp_def];exact(List.attach_map_val (f:=id)).trans (List.map_id us)
 have hds:d.size=us.length:=by simp[d]
 have:Inhabited α:=⟨⟨us.head hus,hrel _ (List.head_mem hus)⟩⟩;let enc : α→List Value:=fun x=>x.1.2
 have hk:∀x,(enc x).length=k:=fun x=>by rw[←hlen x.1.1]; exact x.2.1.length
 have hflat:∀dd:Array α,(flatK enc k dd).toList=zDm (dd.toList.map (·.1)):=fun dd=>by rw[zRt hk,zDm,List.flatMap_map]
 have hne:∀b' o v,H b' o=some v→b'≠b:=fun b' o v h e=>by subst e; rw[hnone]at h; cases h
 have hk2:=hkit α enc hk (fun x v hv=>x.2.2 v hv) (fun x y=>cf x.1.1 y.1.1) (qEh ho fun x : α=>x.1.1) b 0 cap d w ?_ ?_ hlt (by rw[hds]; exact hmax)
 ·rw[hds]at hk2;refine hk2.mono fun e w' hx=>?_
  obtain⟨rfl,d',n,os,hp,hs,rfl⟩:=hx;refine⟨rfl,d'.toList.map (·.1),n,os,?_,?_,?_⟩
  ·rw[←hds]at hp;have:=(zQm hp).map (·.1);rw[hdm]at this;exact this
  ·rw[jDe];have hsz':us.length=d'.size:=by rw[hp.1,hds]
   exact(zMq hsz' hs).imp fun h=>by simpa [Go.Proofs.ltOf] using h
  ·simp only[sortWorldK,putRowK];rw[←hflat d']
 ·intro m os dk hsz x y;have hW:∀b' o v,H b' o=some v→(sortWorldK enc k w b 0 m dk os).cell? ⟨b',o,none⟩=some v:=fun b' o v h=>zTJ (hne b' o v h) (hH b' o v h)
  have:=zPN (hcmp x.1.1 y.1.1) hW (vs:=[.agg (enc x).toArray,.agg (enc y).toArray]) (by
   refine qT ?_ (qT ?_ jM)
   ·simp only[Rel]; exact⟨_,rfl,x.2.1,x.2.2⟩
   ·simp only[Rel]; exact⟨_,rfl,y.2.1,y.2.2⟩)
  simpa using this
 ·intro j hj;have hj':j<(flatK enc k d).toList.length:=by simpa using hj
  have h1:(zDm us)[j]?=some ((flatK enc k d)[j]!):=by rw[←hdm,←hflat d,jA2 hj',getElem!_pos _ j hj];simp
  simpa using hcell j _ h1
end
end Go.Abs
namespace Go.Abs
def lkB:List (Nat×A)→Nat→A
 | [],_=>.any
 | p::l,x=>bif Nat.beq x p.1 then p.2 else lkB l x
theorem zJe:∀l:List (Nat×A),lkB l=qG l
 | []=>rfl
 | (t,a)::l=>by
  funext x;simp only[lkB,qG,zJe l];by_cases h:x=t
  ·subst h; simp
  ·have:Nat.beq x t=false:=by
    cases hb:Nat.beq x t with
    | false=>rfl
    | true=>exact(h (jD0 hb)).elim
   simp[this,h]
def zOs (d:Option Nat)(a:A)(l:List (Nat×A)):List (Nat×A):=match d with
 | none=>l
 | some d=>(d,a)::l
theorem zEk (d:Option Nat)(a:A)(l:List (Nat×A)):qG (zOs d a l)=(qG l).put d a:=by cases d<;>rfl
def eqB:SK→A→A→Option Bool
 | .i,.lit (.int k a),.lit (.int k' b)=>if k=k' then some (decide (a=b)) else none
 | .b,.lit (.bool a),.lit (.bool b)=>some (a==b)
 | _,_,_=>none
def zPo:List SK→List A→List A→Option Bool
 | [],[],[]=>some true
 | k::ks,x::xs,y::ys=>match eqB k x y,zPo ks xs ys with
  | some p,some q=>some (p&&q)
  | _,_=>none
 | _,_,_=>none
def qDm (op:BinOp)(k:IntKind)(a b:Int):Option A:=match op with
 | .add=>some (.lit (.int k (k.wrap (a+b))))
 | .sub=>some (.lit (.int k (k.wrap (a-b))))
 | .mul=>some (.lit (.int k (k.wrap (a*b))))
 | .quo=>if b=0 then none else some (.lit (.int k (k.wrap (a.tdiv b))))
 | .rem=>if b=0 then none else some (.lit (.int k (a.tmod b)))
 | .lss=>some (.lit (.bool (decide (a<b))))
 | .leq=>some (.lit (.bool (decide (a≤b))))
 | .gtr=>some (.lit (.bool (decide (b<a))))
 | .geq=>some (.lit (.bool (decide (b≤a))))
 | _=>none
def zZO (neg b:Bool):A:=.lit (.bool (if neg then !b else b))
theorem zM8 {k:SK}{x y:A}{b:Bool}(h:eqB k x y=some b):∃p,zBT k x y=some p∧(p↔b=true):=by
 unfold eqB at h;split at h
 ·split at h<;>try (cases h; done)
  rename_i hk;cases h;subst hk;exact⟨_,by simp only[zBT,if_true]; rfl,by simp⟩
 ·cases h;exact⟨_,rfl,by simp⟩
 ·cases h
theorem zKT:∀{ks:List SK} {xs ys:List A} {b:Bool},zPo ks xs ys=some b→∃p,zAa ks xs ys=some p∧(p↔b=true)
 | [],[],[],b,h=>by cases h; exact⟨_,rfl,by simp⟩
 | k::ks,x::xs,y::ys,b,h=>by
  simp only[zPo]at h;split at h<;>try (cases h; done)
  rename_i p q hp hq;cases h;obtain⟨p',h1,h2⟩:=zM8 hp;obtain⟨q',h3,h4⟩:=zKT hq;exact⟨_,by simp only[zAa,h1,h3]; rfl,by simp[h2,h4]⟩
 | [],[],_::_,b,h=>by simp[zPo]at h
 | [],_::_,_,b,h=>by simp[zPo]at h
 | _::_,[],_,b,h=>by simp[zPo]at h
 | _::_,_::_,[],b,h=>by simp[zPo]at h
theorem zT2 {neg b:Bool}{p:Prop}(h:p↔b=true):zBh neg p=zZO neg b:=by have e:p=(b=true):=propext h;subst e;unfold zBh zZO;cases neg<;>cases b<;>simp
theorem zRC {op:BinOp}{k:IntKind}{a b:Int}{r:A}(h:qDm op k a b=some r):∃p:Prop,zEf op k a b=some (p,r)∧p:=by
 unfold qDm at h;split at h<;>first
  | (cases h; exact⟨True,rfl,trivial⟩)
  | (split at h<;>first | (cases h; done) | (rename_i hb; cases h; exact⟨_,rfl,hb⟩))
  | (cases h; done)
def zIt (env:Env) (σ : St):KOp→Option A
 | .mov _ x=>some (ev env x)
 | .pick _ c a b=>match ev env c with
  | .lit (.bool t)=>some (bif t then ev env a else ev env b)
  | _=>none
 | .ld _ x n agg=>(ldA σ n (ev env x)).bind (zBG agg)
 | .addr _ x off=>zHE σ off (ev env x)
 | .idx _ x i sz=>match ev env x,ev env i with
  | .sl n cs,.lit (.int _ j)=>if (0≤j∧j<n)∧j.toNat*sz<cs.length then some (.rptr (cs.drop (j.toNat*sz))) else none
  | .fsl n cs,.lit (.int _ j)=>if (0≤j∧j<n)∧j.toNat*sz<cs.length then some (.rptr (cs.drop (j.toNat*sz))) else none
  | .row l n,.lit (.int _ j)=>match σ[l]? with
   | some (.row _ _ s m _)=>if (n=m∧s=sz)∧0≤j∧j<n then some (.rwp l n (j.toNat*sz)) else none
   | _=>none
  | .win l n o k' _,.lit (.int _ j)=>match σ[l]? with
   | some (.row _ _ s m _)=>if (n=m∧s=sz)∧0≤j∧j<k' then some (.rwp l n (o+j.toNat*sz)) else none
   | _=>none
  | _,_=>none
 | .rslc _ x sz lo hi=>match ev env x with
  | .row l n=>match σ[l]? with
   | some (.row _ _ s m _)=>(match qF env 0 lo,qF env n hi with
    | some l',some h=>if (n=m∧s=sz)∧0≤l'∧l'≤h∧h≤n then some (.win l n (l'.toNat*sz) (h-l').toNat sz) else none
    | _,_=>none)
   | _=>none
  | .win l n o k c=>match σ[l]? with
   | some (.row _ _ s m _)=>(match qF env 0 lo,qF env k hi with
    | some l',some h=>if (n=m∧s=sz)∧(0≤l'∧l'≤h∧h≤k)∧c=sz then some (.win l n (o+l'.toNat*sz) (h-l').toNat sz) else none
    | _,_=>none)
   | _=>none
  | _=>none
 | .slc _ x sz lo hi none=>match ev env x with
  | .sl n cs=>(match qF env 0 lo,qF env n hi with
   | some l,some h=>if 0≤l∧l≤h∧h≤n then some (.sl (h-l).toNat ((cs.drop (l.toNat*sz)).take ((h-l).toNat*sz))) else none
   | _,_=>none)
  | .fsl n cs=>(match qF env 0 lo,qF env n hi with
   | some l,some h=>if 0≤l∧l≤h∧h≤n then some (.sl (h-l).toNat ((cs.drop (l.toNat*sz)).take ((h-l).toNat*sz))) else none
   | _,_=>none)
  | .nil=>(match qF env 0 lo,qF env 0 hi with
   | some l,some h=>if l=0∧h=0 then some .nil else none
   | _,_=>none)
  | _=>none
 | .fld _ x off n agg=>match ev env x with
  | .agg cs=>(sub cs off n).bind (zBG agg)
  | _=>none
 | .ix _ x i len sz agg=>match ev env x,ev env i with
  | .agg cs,.lit (.int _ j)=>if 0≤j∧j<len then (sub cs (j.toNat*sz) sz).bind (zBG agg) else none
  | _,_=>none
 | .bin _ op x y=>match ev env x,ev env y with
  | .lit (.int k a),.lit (.int k' b)=>if k=k' then qDm op k a b else none
  | _,_=>none
 | .eqv _ neg k x y=>(eqB k (ev env x) (ev env y)).map (zZO neg)
 | .eqs _ neg ks x y=>match ev env x,ev env y with
  | .agg xs,.agg ys=>(zPo ks xs ys).map (zZO neg)
  | _,_=>none
 | .isn _ neg x=>match ev env x with
  | .nil=>some (.lit (.bool !neg))
  | .sl n _=>if n=0 then none else some (.lit (.bool neg))
  | .fsl n _=>if n=0 then none else some (.lit (.bool neg))
  | _=>none
 | .neg _ x=>match ev env x with
  | .lit (.int k a)=>some (.lit (.int k (k.wrap (0-a))))
  | _=>none
 | .not _ x=>match ev env x with
  | .lit (.bool b)=>some (.lit (.bool !b))
  | _=>none
 | .mm _ max xs=>mmA max (xs.map (ev env))
 | .ext _ x i=>match ev env x with
  | .tup vs=>vs[i]?
  | _=>none
 | .clo _ f first cap=>some (.clo f (first.map (ev env)) (cap.map (ev env)))
 | .nilc _ x=>match ev env x with
  | .ptr l o=>some (.ptr l o)
  | .rptr cs=>some (.rptr cs)
  | _=>none
 | .build _ zero parts=>(zBs (zero.map qR) (parts.map fun(o,s,x)=>(o,s,ev env x))).map .agg
 | .len _ false x=>match ev env x with
  | .nil=>some (.lit (.int .i64 0))
  | .sl n _=>some (.lit (.int .i64 n))
  | .fsl n _=>some (.lit (.int .i64 n))
  | .row l n=>match σ[l]? with
   | some (.row _ _ _ m _)=>if n=m then some (.lit (.int .i64 n)) else none
   | _=>none
  | .win l n _ k _=>match σ[l]? with
   | some (.row _ _ _ m _)=>if n=m then some (.lit (.int .i64 k)) else none
   | _=>none
  | _=>none
 | _=>none
section
variable {P:Program}{env:Env} {σ : St}
theorem zJS {k:KOp}{r:A}(h:zIt env σ k=some r){J:A→Prop}(hJ:J r):qW (zI env σ k) J:=by
 cases k<;>simp only[zIt]at h<;>try (cases h; done)
 case mov=>cases h; exact⟨trivial,hJ⟩
 case pick d c a b =>
  split at h<;>try (cases h; done)
  rename_i t ht;cases h;rw[zNm,ht];cases t<;>exact hJ
 case ld d x n agg =>
  simp only[zI,h];exact⟨trivial,hJ⟩
 case addr d x off =>
  rw[zHf,h];exact⟨trivial,hJ⟩
 case idx d x i sz =>
  split at h<;>try (cases h; done)
  ·rename_i h1 h2;split at h<;>try (cases h; done)
   rename_i hc;cases h;simp only[zI,h1,h2];exact⟨hc,hJ⟩
  ·rename_i h1 h2;split at h<;>try (cases h; done)
   rename_i hc;cases h;simp only[zI,h1,h2];exact⟨hc,hJ⟩
  ·rename_i h1 h2;split at h<;>try (cases h; done)
   rename_i h3;split at h<;>try (cases h; done)
   rename_i hc;cases h;simp only[zI,h1,h2,h3,hc.1,and_self,if_true];obtain⟨⟨rfl,rfl⟩,hc⟩:=hc;exact⟨hc,hJ⟩
  ·rename_i h1 h2;split at h<;>try (cases h; done)
   rename_i h3;split at h<;>try (cases h; done)
   rename_i hc;cases h;simp only[zI,h1,h2,h3,hc.1,and_self,if_true];obtain⟨⟨rfl,rfl⟩,hc⟩:=hc;exact⟨hc,hJ⟩
 case rslc d x sz lo hi =>
  split at h<;>try (cases h; done)
  all_goals
   rename_i h1;split at h<;>try (cases h; done)
   rename_i h3;split at h<;>try (cases h; done)
   rename_i h4 h5;split at h<;>try (cases h; done)
   rename_i hc;cases h;obtain⟨⟨rfl,rfl⟩,hc⟩:=hc;simp only[zI,h1,h3,h4,h5,and_self,if_true];exact⟨hc,hJ⟩
 case slc d x sz lo hi mx =>
  cases mx<;>simp only at h<;>try (cases h; done)
  split at h<;>try (cases h; done)
  all_goals
   rename_i h1;split at h<;>try (cases h; done)
   rename_i h4 h5;split at h<;>try (cases h; done)
   rename_i hc;cases h;simp only[zI,h1,h4,h5];exact⟨hc,hJ⟩
 case fld d x off n agg =>
  split at h<;>try (cases h; done)
  rename_i h1;simp only[zI,h1,h];exact⟨trivial,hJ⟩
 case ix d x i len sz agg =>
  split at h<;>try (cases h; done)
  rename_i h1 h2;split at h<;>try (cases h; done)
  rename_i hc;simp only[zI,h1,h2,h];exact⟨hc,hJ⟩
 case bin d op x y =>
  split at h<;>try (cases h; done)
  rename_i h1 h2;split at h<;>try (cases h; done)
  rename_i hc;obtain⟨p,h3,h4⟩:=zRC h;simp only[zI,h1,h2,hc,if_true];rw[←hc,h3];exact⟨h4,hJ⟩
 case eqv d neg k x y =>
  rw[jAa]at h;obtain⟨b,h1,rfl⟩:=h;obtain⟨p,h2,h3⟩:=zM8 h1;simp only[zI,h2,jCx,qW];rw[zT2 h3];exact⟨trivial,hJ⟩
 case eqs d neg ks x y =>
  split at h<;>try (cases h; done)
  rename_i g1 g2;rw[jAa]at h;obtain⟨b,h1,rfl⟩:=h;obtain⟨p,h2,h3⟩:=zKT h1;simp only[zI,g1,g2,h2,jCx,qW];rw[zT2 h3];exact⟨trivial,hJ⟩
 case isn d neg x =>
  split at h<;>try (cases h; done)
  ·rename_i h1; cases h; simp only[zI,h1]; exact⟨trivial,hJ⟩
  ·rename_i h1;split at h<;>try (cases h; done)
   rename_i hc;cases h; simp only[zI,h1]; exact⟨hc,hJ⟩
  ·rename_i h1;split at h<;>try (cases h; done)
   rename_i hc;cases h; simp only[zI,h1]; exact⟨hc,hJ⟩
 case neg d x =>
  split at h<;>try (cases h; done)
  rename_i h1; cases h; simp only[zI,h1]; exact⟨trivial,hJ⟩
 case not d x =>
  split at h<;>try (cases h; done)
  rename_i h1; cases h; simp only[zI,h1]; exact⟨trivial,hJ⟩
 case mm d mx xs =>
  rw[zTj,h];exact hJ
 case ext d x i =>
  split at h<;>try (cases h; done)
  rename_i h1;simp only[zI,h1,h];exact⟨trivial,hJ⟩
 case clo d f a b=>cases h; exact⟨trivial,hJ⟩
 case nilc d x =>
  split at h<;>try (cases h; done)
  ·rename_i h1; cases h; simp only[zI,h1]; exact⟨trivial,hJ⟩
  ·rename_i h1; cases h; simp only[zI,h1]; exact⟨trivial,hJ⟩
 case build d z ps =>
  rw[zK6,h];exact hJ
 case len d s x =>
  cases s<;>simp only at h<;>try (cases h; done)
  split at h<;>try (cases h; done)
  ·rename_i h1; cases h; simp only[zI,h1]; exact⟨trivial,hJ⟩
  ·rename_i h1; cases h; simp only[zI,h1]; exact⟨trivial,hJ⟩
  ·rename_i h1; cases h; simp only[zI,h1]; exact⟨trivial,hJ⟩
  ·rename_i h1;split at h<;>try (cases h; done)
   rename_i h2;split at h<;>try (cases h; done)
   rename_i hc;cases h;simp only[zI,h1,h2,hc,if_true];exact⟨trivial,by rw[←hc]; exact hJ⟩
  ·rename_i h1;split at h<;>try (cases h; done)
   rename_i h2;split at h<;>try (cases h; done)
   rename_i hc;cases h;simp only[zI,h1,h2,hc,if_true];exact⟨trivial,hJ⟩
def evO (C:FuncId→List A→St→Option (A×St))(k:KOp)(env:Env) (σ : St):Option (A×St):=match k with
 | .alloc _ zs=>some (.ptr σ.length 0,σ++[.box (zs.map qR)])
 | .box _ x=>match cellsOf (ev env x)with
  | some cs=>some (.ptr σ.length 0,σ++[.box cs])
  | none=>none
 | .bslice _ _ _ n zero parts=>match zBs (zero.map qR) (parts.map fun(o,s,x)=>(o,s,ev env x))with
  | some cs=>some (.fsl n cs,σ)
  | none=>none
 | .brow _ e sz n zero parts=>match zBs (zero.map qR) (parts.map fun(o,s,x)=>(o,s,ev env x))with
  | some cs=>some (.row σ.length n,σ++[.row false e sz n cs])
  | none=>none
 | .st _ x v n=>match cellsOf (ev env v)with
  | some cs=>if cs.length=n then (match stA σ cs (ev env x)with
   | some σ'=>some (.lit undef,σ')
   | none=>none) else none
  | none=>none
 | .app _ e sz bytes x y=>match zB5 σ sz (ev env y)with
  | some (m,ys)=>if ys.length=m*sz then (match ev env x with
   | .nil=>if m≤maxLen∧m*bytes≤140737488355328 then some (.row σ.length m,σ++[.row false e sz m ys]) else none
   | .row l n=>(match σ[l]? with
    | some (.row fz e' s n' cs)=>if (n=n'∧e'=e∧s=sz)∧n+m≤maxLen∧(n+m)*bytes≤140737488355328 then some (.row l (n+m),σ.set l (.row fz e sz (n+m) (cs++ys))) else none
    | _=>none)
   | .fsl n cs=>if cs.length=n*sz then (if m=0 then some (.fsl n cs,σ) else if n+m≤maxLen∧(n+m)*bytes≤140737488355328 then some (.row σ.length (n+m),σ++[.row false e sz (n+m) (cs++ys)]) else none) else none
   | _=>none) else none
  | none=>none
 | .call _ f args=>match ev env f with
  | .clo g first cap=>C g (first++args.map (ev env)++cap) σ
  | _=>none
 | .alr _ q zs=>(match σ[q]? with
  | some .rsv=>some (.ptr q 0,σ.set q (.box (zs.map qR)))
  | _=>none)
 | .mop _ m xs=>zRQ m (xs.map (ev env)) σ
 | .isz _ ng x=>(match ev env x with
  | .nil=>some (.lit (.bool !ng),σ)
  | .sl n _=>if n=0 then none else some (.lit (.bool ng),σ)
  | .row l n=>(match σ[l]? with
   | some (.row _ _ _ m _)=>if n=m∧n≠0 then some (.lit (.bool ng),σ) else none
   | _=>none)
  | _=>none)
 | k=>match zIt env σ k with
  | some r=>some (r,σ)
  | none=>none
def zBM (P:Program)(C:FuncId→List A→St→Option (A×St)):Prop:=∀f xs σ r σ',C f xs σ = some (r,σ')→zB P f=true∧Ret P f xs σ r σ'
theorem zIV {C:FuncId→List A→St→Option (A×St)}(hC:zBM P C){k:KOp}{r:A} {σ':St}(h:evO C k env σ = some (r,σ')){Qp:Value→Env→St→Prop}{K:Env→St→Prop}(hK:K (env.put k.dst r) σ'):wpO P Qp K k env σ:=by
 have dflt:(match zIt env σ k with | some r=>some (r,σ) | none=>none)=some (r,σ')→qW (zI env σ k) fun r=>K (env.put k.dst r) σ:=by
  intro h;split at h<;>try (cases h; done)
  rename_i r0 h0;cases h;exact zJS h0 hK
 cases k<;>simp only[evO]at h
 case alloc d z=>cases h; exact hK
 case box d x =>
  split at h<;>try (cases h; done)
  rename_i h1;cases h;simp only[wpO,h1];exact hK
 case bslice d e sz n z ps =>
  split at h<;>try (cases h; done)
  rename_i h1;cases h;simp only[wpO,h1];exact hK
 case brow d e sz n z ps =>
  split at h<;>try (cases h; done)
  rename_i h1;cases h;simp only[wpO,h1];exact hK
 case st d x v n =>
  split at h<;>try (cases h; done)
  rename_i h1;split at h<;>try (cases h; done)
  rename_i h2;split at h<;>try (cases h; done)
  rename_i h3;cases h;simp only[wpO,h1,h2,if_true,h3];exact hK
 case app d e sz bytes x y =>
  split at h<;>try (cases h; done)
  rename_i m ys h1;split at h<;>try (cases h; done)
  rename_i h2;simp only[wpO,h1];refine⟨h2,?_⟩;split at h<;>try (cases h; done)
  ·rename_i h3;split at h<;>try (cases h; done)
   rename_i h4;cases h;rw[h3];exact⟨h4,hK⟩
  ·rename_i h3;split at h<;>try (cases h; done)
   rename_i h4;split at h<;>try (cases h; done)
   rename_i h5;cases h;rw[h3];simp only[h4,h5.1,and_self,if_true];rw[←h5.1.1];exact⟨h5.2,hK⟩
  ·rename_i n cs h3;split at h<;>try (cases h; done)
   rename_i h4;rw[h3];refine⟨h4,?_⟩;split at h
   ·rename_i h5;cases h;exact⟨fun _=>hK,fun h=>(h h5).elim⟩
   ·rename_i h5;split at h<;>try (cases h; done)
    rename_i h6;cases h;exact⟨fun h=>(h5 h).elim,fun _=>⟨h6,hK⟩⟩
 case call d f args =>
  split at h<;>try (cases h; done)
  rename_i g first cap h1
  obtain⟨h2,h3⟩:=hC _ _ _ _ _ h;simp only[wpO,h1];exact⟨h2,h3.mono fun o τ ho=>by obtain⟨rfl,rfl⟩:=ho; exact hK⟩
 case alr d q z =>
  split at h<;>try (cases h; done)
  rename_i h1;cases h;simp only[wpO,h1];exact hK
 case shr d x sz hx=>simp[zIt]at h
 case apq d e sz bytes x y=>simp[zIt]at h
 case isz d ng x =>
  split at h<;>try (cases h; done)
  ·rename_i h1;cases h;simp only[wpO,h1];exact hK
  ·rename_i h1;split at h<;>try (cases h; done)
   rename_i hc;cases h;simp only[wpO,h1];exact⟨hK,fun e=>(hc e).elim⟩
  ·rename_i h1;split at h<;>try (cases h; done)
   rename_i h2;split at h<;>try (cases h; done)
   rename_i hc;cases h;simp only[wpO,h1,h2];exact⟨hc.1,hK,fun e=>(hc.2 e).elim⟩
 case mop d m xs =>
  simp only[wpO];exact zLx h (J:=fun r τ=>K (env.put d r) τ) hK
 case len d s x =>
  cases s
  ·have:=dflt h;simp only[wpO];split
   ·rename_i n cs h1;intro _;simp only[zI,h1,qW]at this;exact this.2
   ·rename_i n cs h1;intro _;simp only[zI,h1,qW]at this;exact this.2
   ·exact this
  ·exact dflt h
 case pan d x=>simp[evO,zIt]at h
 all_goals exact dflt h
def zZN (f:Nat)(k:KOp)(env:Env):Bool:=bif Nat.blt f 5 then true else
 bif Nat.beq f 5 then (match k with
  | .st _ x _ _=>(match ev env x with | .ptr _ _=>true | _=>false)
  | _=>true) else
 bif Nat.beq f 6 then (match k with
  | .st _ x _ _=>(match ev env x with | .rwp _ _ _=>true | _=>false)
  | .idx _ x _ _=>(match ev env x with | .row _ _=>true | _=>false)
  | _=>true) else
 bif Nat.ble 4000 f then false else
 bif Nat.ble 2000 f then (match k with
  | .ld _ x _ _=>(match ev env x with | .ptr l _=>Nat.ble (f-2000) l | .rptr _=>true | _=>false)
  | _=>true) else
 bif Nat.ble 1000 f then (match k with
  | .st _ x _ _=>(match ev env x with | .ptr l _=>Nat.blt l (f-1000) | _=>false)
  | _=>true) else true
theorem zSp {f:Nat}{k:KOp}(h:zZN f k env=true):zBg f k env:=by
 unfold zZN at h;unfold zBg;split
 ·simp only[show Nat.blt 5 5=false from rfl,show Nat.beq 5 5=true from rfl,cond_true,cond_false]at h;cases k<;>simp only at h⊢;generalize ev env _=a at h⊢;cases a<;>simp_all [zNb]
 ·simp only[show Nat.blt 6 5=false from rfl,show Nat.beq 6 5=false from rfl,show Nat.beq 6 6=true from rfl,cond_true,cond_false]at h;cases k<;>simp only at h⊢
  ·generalize ev env _=a at h⊢;cases a<;>simp_all [zNc]
  ·generalize ev env _=a at h⊢;cases a<;>simp_all [isRow]
 ·rename_i h5 h6;split
  ·rename_i h7;have e1:Nat.blt f 5=false:=by simp only[Nat.blt_eq,←jB4]; omega
   have e2:Nat.beq f 5=false:=by simp only[Nat.beq_eq,←jB4]; omega
   have e3:Nat.beq f 6=false:=by simp only[Nat.beq_eq,←jB4]; omega
   have e4:Nat.ble 4000 f=true:=by simp only[jCg]; omega
   simp only[e1,e2,e3,e4,cond_true,cond_false,jAi]at h
  rename_i h7;have e0:Nat.ble 4000 f=false:=by simp only[jCg,←jB4]; omega
  split
  ·rename_i h2;have e1:Nat.blt f 5=false:=by simp only[Nat.blt_eq,←jB4]; omega
   have e2:Nat.beq f 5=false:=by simp only[Nat.beq_eq,←jB4]; omega
   have e3:Nat.beq f 6=false:=by simp only[Nat.beq_eq,←jB4]; omega
   have e4:Nat.ble 2000 f=true:=by simp only[jCg]; omega
   simp only[e0,e1,e2,e3,e4,cond_true,cond_false]at h;cases k<;>simp only at h⊢;generalize ev env _=a at h⊢;cases a<;>simp_all [zB8]
  ·rename_i h2;split
   ·rename_i h3;have e1:Nat.blt f 5=false:=by simp only[Nat.blt_eq,←jB4]; omega
    have e2:Nat.beq f 5=false:=by simp only[Nat.beq_eq,←jB4]; omega
    have e3:Nat.beq f 6=false:=by simp only[Nat.beq_eq,←jB4]; omega
    have e4:Nat.ble 2000 f=false:=by simp only[jCg,←jB4]; omega
    have e5:Nat.ble 1000 f=true:=by simp only[jCg]; omega
    simp only[e0,e1,e2,e3,e4,e5,cond_true,cond_false]at h;cases k<;>simp only at h⊢;generalize ev env _=a at h⊢;cases a<;>simp_all [zFs]
   ·trivial
abbrev Cl0:=(FuncId→List A→Option A)×(FuncId→List A→Nat→Option (A×St))
def zSJ (C:FuncId→List A→St→Option (A×St))(C0:Cl0)(f:Nat)(k:KOp)(env:Env) (σ : St):Option (A×St):=match k with
 | .call _ fo args=>match ev env fo with
  | .clo g first cap=>match f with
   | 0=>(match C0.1 g (first++args.map (ev env)++cap)with | some r=>some (r,σ) | none=>none)
   | 1=>(match C0.1 g (first++args.map (ev env)++cap)with | some r=>some (r,σ) | none=>none)
   | 2=>none
   | 3=>none
   | 8=>none
   | 7=>(match C0.2 g (first++args.map (ev env)++cap) σ.length with | some (r,own)=>some (r,σ++own) | none=>none)
   | f=>bif Nat.ble 11 f then none else C g (first++args.map (ev env)++cap) σ
  | _=>none
 | .isz ..=>none
 | .shr ..=>none
 | .apq ..=>none
 | .mop _ m xs=>zRQ m (xs.map (ev env)) σ
 | k=>bif k.keeps&&!k.lite then (match zIt env (zDf f σ) k with | some r=>some (r,σ) | none=>none) else evO C k env σ
def zFI (P:Program)(C0:Cl0):Prop:=(∀f xs r,C0.1 f xs=some r→zB P f=true∧∀τ,zAk P f xs τ fun o τ'=>o=.ret r∧τ' = τ) ∧
 ∀f xs n r own,C0.2 f xs n=some (r,own)→zB P f=true∧(∀o∈own,o≠AObj.rsv)∧∀τ : St,τ.length=n→zAk P f xs τ fun o τ'=>o=.ret r∧τ' = τ++own
theorem zJC {C:FuncId→List A→St→Option (A×St)}(hC:zBM P C){C0:Cl0}(hC0:zFI P C0){f:Nat}{k:KOp}{r:A} {σ':St}(h:zSJ C C0 f k env σ = some (r,σ')){Qd:Value→St→Prop}{K:Env→St→Prop}(hK:K (env.put k.dst r) σ'):jI P Qd f K k env σ:=by
 have dflt:(bif k.keeps&&!k.lite then (match zIt env (zDf f σ) k with | some r=>some (r,σ) | none=>none) else evO C k env σ)=some (r,σ') →
  (if k.keeps&&!k.lite then qW (zI env (zDf f σ) k) fun r=>K (env.put k.dst r) σ else wpO P zAR K k env σ):=by
  intro h;cases hb:k.keeps&&!k.lite
  ·rw[hb]at h;exact zIV hC h hK
  ·rw[hb]at h;simp only[cond_true]at h;simp only[if_true];split at h<;>try (cases h; done)
   rename_i h0;cases h;exact zJS h0 hK
 cases k<;>simp only[zSJ]at h<;>try (cases h; done)
 case call d fo args =>
  split at h<;>try (cases h; done)
  rename_i g first cap h1
  simp only[jI,zYb,h1];split at h<;>try (cases h; done)
  ·split at h<;>try (cases h; done)
   rename_i h2;cases h;obtain⟨h3,h4⟩:=hC0.1 _ _ _ h2;exact⟨h3,r,h4 _,hK⟩
  ·split at h<;>try (cases h; done)
   rename_i h2;cases h;obtain⟨h3,h4⟩:=hC0.1 _ _ _ h2;exact⟨h3,r,fun τ _=>h4 τ,hK⟩
  ·split at h<;>try (cases h; done)
   rename_i r1 own h2;cases h;obtain⟨h3,h4,h5⟩:=hC0.2 _ _ _ _ _ h2;exact⟨h3,_,own,h4,fun τ hl _=>h5 τ hl,hK⟩
  ·rename_i n0 n1 n2 n3 n8 n7;cases hb:Nat.ble 11 f
   case true=>rw[hb]at h; cases h
   rw[hb]at h;simp only[cond_false]at h;have hr0:¬11≤f:=fun hh=>by rw[←jB4,jCg]at hb; exact hb hh
   have hr:¬(1000≤f∧f<2000):=fun hh=>hr0 (by omega)
   have hr':¬(3000≤f∧f<4000):=fun hh=>hr0 (by omega)
   obtain⟨h3,h4⟩:=hC _ _ _ _ _ h;refine⟨h3,?_⟩;unfold zYc;split
   ·exact(n0 rfl).elim
   ·exact(n1 rfl).elim
   ·exact(n2 rfl).elim
   ·exact(n3 rfl).elim
   ·exact(n7 rfl).elim
   ·exact(n8 rfl).elim
   ·exact fun H L w vs a b=>(h4 H L w vs a b).mono fun e w' hh=>by obtain⟨o,τ,H',L',g1,g2,rfl,rfl⟩:=hh;exact⟨_,_,H',L',g1,g2,.inl ⟨r,rfl,hK⟩⟩
   ·exact(hr0 (jA _)).elim
   ·rw[if_neg hr,if_neg hr']; exact⟨r,σ',h4,hK⟩
 case mop d m xs =>
  simp only[jI,h];exact hK
 all_goals exact dflt h
end
end Go.Abs
namespace Go.Abs
section
variable {P:Program}{H:Mem}{L:List LI} {σ : St}{w:World}
theorem zAG {n0 t:Nat}{env:Env} {σ : St}(ht:env t=.nil)(e:TypeId)(sz:Nat):zA7 n0 (env.put (some t) (.row σ.length 0)) (σ++[AObj.row false e sz 0 []]) env σ:=by
 intro H0 L0 w0 H L w N tmps h0 h1 h2;have hn:=zCs h1.st e sz;refine⟨H,_,h1.trans hn,h2.1,fun x=>?_⟩;simp only[Env.put];split
 ·rename_i hx;subst hx;have:=h2.2 x;rw[ht]at this;simp only[Rel]at this;rw[this];simp only[Rel];exact⟨rfl,⟨none,0,0,true⟩,by rw[←h1.st.len]; simp,rfl,jA _,fun _=>rfl⟩
 ·exact Rel.mono (HLe.refl _) hn.lle _ (h2.2 x)
theorem zQD {n0:Nat}{env:Env} {σ : St}{l o n:Nat}{e:TypeId}{sz:Nat}{cs:List A}(hl : σ[l]?=some (.row false e sz n cs))(hc:cs[o]?=some .nil)(e':TypeId)(sz':Nat) :
 zA7 n0 env (σ.set l (.row false e sz n (cs.set o (.row σ.length 0)))++[AObj.row false e' sz' 0 []]) env σ:=by
 intro H0 L0 w0 H L w N tmps h0 h1 h2;have hn:=zCs h1.st e' sz';have hlt:l < σ.length:=(jA1.1 hl).1;have hl':(σ++[AObj.row false e' sz' 0 []])[l]?=some (.row false e sz n cs):=by rw[jAd hlt]; exact hl
 have hs:=zJp (o':=.row false e sz n (cs.set o (.row σ.length 0))) hn.st hl' (fun li hob=>by
  simp only[zN]at hob ⊢;obtain⟨g0,g1,g2,g3⟩:=hob;refine⟨g0,g1,by simpa using g2,?_⟩;rcases g3 with ⟨q1,q2⟩ | ⟨b,cur,q1,q2,q3,q4,q5,q6,q7,q8⟩
  ·subst q2;have:cs=[]:=jC7 (by simpa using g2);subst this;simp at hc
  ·obtain⟨v,hv,hrel⟩:=q6.get hc;simp only[Rel]at hrel;subst hrel;have hset:cur.toList.take (n*sz)=(cur.toList.take (n*sz)).set o (.slice none 0 0):=by
    apply jC8;intro i;by_cases hi:i=o
    ·subst hi; rw[jAj (jA1.1 hv).1,hv]
    ·rw[jA8 (Ne.symm hi)]
   refine .inr ⟨b,cur,q1,q2,q3,q4,q5,?_,q7,q8⟩;rw[hset];refine q6.set o ?_;simp only[Rel];exact⟨rfl,⟨none,0,0,true⟩,by rw[←h1.st.len]; simp,rfl,jA _,fun _=>rfl⟩)
 rw[List.set_append_left _ _ hlt]at hs;have hm:=h1.trans hn;exact⟨H,_,⟨hs,hm.step,hm.lle,hm.own⟩,h2.1,fun x=>Rel.mono (HLe.refl _) hn.lle _ (h2.2 x)⟩
end
end Go.Abs
namespace Go.Abs
section
variable {α : Type}{enc : α→List A}{k:Nat}
theorem zBU (hk:∀x,(enc x).length=k):∀(l:List α),(l.flatMap enc).length=l.length*k
 | []=>by simp
 | x::l=>by rw[jBi,jA7,hk,zBU hk l,jAl,jBj,jCt]
theorem zD7 (hk:∀x,(enc x).length=k):∀{l:List α} {i:Nat} (h:i<l.length),(l.flatMap enc).drop (i*k)=enc l[i]++(l.drop (i+1)).flatMap enc
 | x::l,0,h=>by simp
 | x::l,i+1,h=>by rw[jBj,jCt,jBi,←List.drop_drop,List.drop_left' (hk x),zD7 hk (by simpa using h)];simp
theorem zBl (hp:∀x,qJ (enc x)):∀(l:List α),qJ (l.flatMap enc)
 | []=>qJ.nil
 | x::l=>by
  have h1:=hp x;have h2:=zBl hp l;refine⟨?_,fun rf g=>?_⟩
  ·rw[jBi,zOk,h1.1,h2.1]
  ·rw[jBi,zSu,h1.2,h2.2]
end
end Go.Abs
namespace Go.Abs
section
variable {P:Program}
end
end Go.Abs
namespace Go.Abs
open Go.Proofs
section
variable {P:Program}{H:Mem}{L:List LI} {σ : St}{w:World}
theorem zUE (hs:RelSt H L σ w)(ob:AObj)(o:Obj)(li:LI)(hli:li.block=some w.heap.size)(ho:zN H (L++[li]) (w.alloc o) li ob):Nxt H L w H (L++[li]) (σ++[ob]) (w.alloc o):=by
 have hll:=LLe.append L [li];refine⟨⟨fun b o v hv=>?_,by simp[hs.len],fun i l o hL hσ=>?_,fun i j l l' b hi hj hb hb'=>?_,fun i l b hL hb=>?_⟩,
  ⟨rfl,rfl,rfl,by simp,fun k hk _=>heap_alloc_old w _ (h:=hk),HLe.refl _,fun b o v hv=>.inl hv,jA _,zEb (fun k hk=>heap_alloc_old w _ (h:=hk))⟩,hll,fun b ⟨i,l,hL,hb⟩=>?_⟩
 ·rw[World.cell?_alloc_lt _ _ _ (hs.h_lt hv)];exact hs.pers b o v hv
 ·rcases jH hL with hL' | ⟨rfl,rfl⟩
  ·have hi:i<L.length:=(jA1.1 hL').1;rw[jAd (by rw[←hs.len]; exact hi)]at hσ;exact(hs.obj i l o hL' hσ).carry (fun b hb=>heap_alloc_old w _ (h:=hs.lt i l b hL' hb)) (HLe.refl _) hll (fun _ _ _=>rfl)
  ·rw[hs.len]at hσ;rw[jAr (jA _)]at hσ;simp only[jC1,jAz,jA0]at hσ;subst hσ;exact ho
 ·rcases jH hi with hi' | ⟨rfl,rfl⟩
  ·rcases jH hj with hj' | ⟨rfl,rfl⟩
   ·exact hs.inj i j l l' b hi' hj' hb hb'
   ·rw[hli]at hb'; cases hb'; have:=hs.lt i l _ hi' hb; omega
  ·rw[hli]at hb;cases hb;rcases jH hj with hj' | ⟨rfl,rfl⟩
   ·have:=hs.lt j l' _ hj' hb'; omega
   ·rfl
 ·rcases jH hL with hL' | ⟨rfl,rfl⟩
  ·have:=hs.lt i l b hL' hb; simp; omega
  ·rw[hli]at hb; cases hb; simp
 ·rcases jH hL with hL' | ⟨rfl,rfl⟩
  ·exact .inl ⟨i,l,hL',hb⟩
  ·rw[hli]at hb; cases hb; exact .inr (jA _)
theorem zWM {ρ : Go.Shelf.Ren}(LL:Lays8.n4 P ρ){i:TypeInfo}{z:Value}(hi:P.info? (ρ.t 25)=some i)(hz:i.zero=some z)(hzs:z.cells.size=i.size)(h0:0<i.size){n:Nat}(hb:n*i.bytes≤140737488355328)(hn63:n≤4611686018427387904) :
 Ret P (ρ.f 4) [.nil,.lit (.int .i64 n)] [] (.row 0 0) [.row false (ρ.t 25) i.size 0 []]:=by
 intro H L w vs hs hvs;obtain⟨v,vs',rfl,h1,h2⟩:=zV hvs;obtain⟨u,vs'',rfl,h3,h4⟩:=zV h2;have:=jK h4;subst this;simp only[Rel]at h1 h3;subst h1 h3;have hL:L=[]:=jC7 (by rw[hs.len]; rfl);subst hL;have hn:n≤maxLen:=by simp only[maxLen]; omega
 by_cases hz0:n=0
 ·subst hz0;refine(Any8.slices_Grow_room LL none 0 0 0 w (jA _) (by omega) (by omega) (by omega)).mono fun e w' hh=>?_
  obtain⟨rfl,rfl⟩:=hh;have hnx:=zCs hs (ρ.t 25) i.size;refine⟨.ret (.row 0 0),_,H,_,⟨_,rfl,?_⟩,hnx,rfl,rfl⟩;simp only[Rel];exact⟨rfl,⟨none,0,0,true⟩,by simp,rfl,jA _,fun _=>rfl⟩
 ·refine(Any8.slices_Grow_grow LL i z hi hz h0 none 0 0 n [] w (jA _) (by omega) (by rw[jAt]; exact hb) (by omega) (by simp) (fun _=>rfl) (fun a ha=>by cases ha)).mono fun e w' hh=>?_
  obtain⟨rfl,rfl⟩:=hh;have hge:=grownCap_ge w (0+n) 0 (ρ.t 25);have hcm:grownCap w (0+n) 0 (ρ.t 25)≤maxLen:=grownCap_le_maxLen w (0+n) 0 (ρ.t 25) (by omega);generalize grownCap w (0+n) 0 (ρ.t 25)=cap at hge hcm ⊢;have hd:=zIo hs;have hnx:=zUE hd.st (.row false (ρ.t 25) i.size 0 []) (.cells ((([]:List Value).toArray++Builtin.zeroCells z.cells (0+n-0)++Builtin.zeroCells z.cells (cap-(0+n)))) (ρ.t 25)) ⟨some w.heap.size,cap,0,true⟩ rfl (by
   simp only[zN];refine⟨trivial,trivial,by simp,.inr ⟨w.heap.size,_,rfl,heap_alloc_new w.drew _,jB _,hcm,?_,?_,?_,fun o=>?_⟩⟩
   ·simp only[Array.size_append,size_zeroCells,hzs];simp only[jBv,jBu,jAt,Nat.sub_zero,←jAw]
    congr 1
    omega
   ·simp[zT]
   ·simp
   ·cases hH:H w.heap.size o with
    | none=>rfl
    | some v=>have:=hs.h_lt hH; omega)
  have hnx:=hd.trans hnx;refine⟨.ret (.row 0 0),_,H,_,⟨_,rfl,?_⟩,hnx,rfl,rfl⟩;simp only[Rel];exact⟨rfl,⟨some w.heap.size,cap,0,true⟩,by simp,rfl,jA _,fun _=>rfl⟩
theorem zUw {ρ : Go.Shelf.Ren}(LL:Lays8.n4 P ρ){sz bs:Nat}{z:Value}(hi:(P.info? (ρ.t 25)).map (fun i=>(i.size,i.bytes,i.zero))=some (sz,bs,some z))(hzs:z.cells.size=sz)(h0:0<sz){n:Nat}(hb:n*bs≤140737488355328)(hn63:n≤4611686018427387904) :
 Ret P (ρ.f 4) [.nil,.lit (.int .i64 n)] [] (.row 0 0) [.row false (ρ.t 25) sz 0 []]:=by
 rw[jAa]at hi;obtain⟨i,h1,h2⟩:=hi;simp only[jBa]at h2;obtain⟨rfl,rfl,h3⟩:=h2;exact zWM LL h1 h3 hzs h0 hb hn63
end
end Go.Abs
namespace Go.Proofs.YtdnelmeboihpkaaGreatDoor
open Go.Abs
theorem jT (n:Int)(h : -9223372036854775808≤n∧n≤9223372036854775807):IntKind.i64.wrap n=n:=IntWalk.i64_in _ h
theorem zAz (n:Nat)(h:n<9000000000000000000):IntKind.i64.wrap ((n:Int)+1)=(n:Int)+1:=IntWalk.i64_in _ (by omega)
def w64 (n:Int):Int:=IntKind.i64.wrap n
def zFE (a b c a' b' c':Int):Bool:=decide (Id.mk a b c=Id.mk a' b' c')
@[simp] theorem zCa {x y:Id}:zFE x.a x.b x.c y.a y.b y.c=decide (x=y):=rfl
def Id.zero:Id:=⟨0,0,0⟩
@[simp] theorem qDS {x:Id}:zFE x.a x.b x.c 0 0 0=decide (x=Id.zero):=rfl
@[simp] theorem Id.zero_a:Id.zero.a=0:=rfl
@[simp] theorem Id.zero_b:Id.zero.b=0:=rfl
@[simp] theorem Id.zero_c:Id.zero.c=0:=rfl
@[simp] theorem qKA:zFE 0 0 0 0 0 0=true:=rfl
@[simp] theorem zYJ {a b c a' b' c':Int}:zNO [.i,.i,.i] false (.agg [.lit (.int .i64 a),.lit (.int .i64 b),.lit (.int .i64 c)]) (.agg [.lit (.int .i64 a'),.lit (.int .i64 b'),.lit (.int .i64 c')]) =
 some (.lit (.bool (zFE a b c a' b' c'))):=by simp[zNO,zAa,zBT,zBh,zFE]
@[simp] theorem qIX {a b c a' b' c':Int}:zNO [.i,.i,.i] true (.agg [.lit (.int .i64 a),.lit (.int .i64 b),.lit (.int .i64 c)]) (.agg [.lit (.int .i64 a'),.lit (.int .i64 b'),.lit (.int .i64 c')]) =
 some (.lit (.bool (!zFE a b c a' b' c'))):=by simp[zNO,zAa,zBT,zBh,zFE]
def K12:K:=G [kMi 4 0] (Z (G [M 5 0,kBi 6 5 0 .lss] (Y 6 (K.ops [M 7 0,kBi 8 7 1 .add,⟨none,.neg (some 9) (kt 8)⟩,M 0 9]) ks)) (G [M 10 0,M 11 1,kB 12 10 11 .rem,M 4 12] kr))
theorem c12:zQ Tryz.prog Tryz.f12.ntmps (Tryz.f12.body.getD .skip)=some K12.erase:=by kernel_rfl
@[simp] theorem qQC:zB Tryz.prog 12=true:=by kernel_rfl
def zET (n k:Int):Int:=(if n<0 then w64 (0-w64 (n+1)) else n).tmod k
theorem zT8 (n k:Int)(hk:0<k):Ret Tryz.prog 12 [int n,int k] [] (int (zET n k)) []:=by
 refine zH Tryz.func12 rfl c12 (rs:=[.slot 4]) (by kernel_rfl) ?_;unfold K12;have h0:¬k=0:=by omega
 by_cases h:n<0
 ·simp[h,h0];exact zA 0 (by simp[zET,h,w64])
 ·simp[h,h0];exact zA 0 (by simp[zET,h])
theorem zND {n k:Int}(hn:w64 n=n)(hk:0<k):0≤zET n k∧zET n k<k:=by
 unfold zET;have h:0≤(if n<0 then w64 (0-w64 (n+1)) else n):=by simp only[w64,IntKind.wrap_i64]at hn ⊢;split<;>omega
 exact⟨Int.tmod_nonneg _ h,Int.tmod_lt_of_pos _ hk⟩
def zDj:List Id→Id→List Id
 | [],x=>[x]
 | y::l,x=>if zA8 y x=true then y::zDj l x else if y=x then y::l else x::y::l
def zOq:List Id→Id→Nat
 | [],_=>0
 | y::l,x=>if zA8 y x=true then zOq l x+1 else 0
theorem zTq:∀(l:List Id) (x:Id),zOq l x≤l.length
 | [],x=>by simp[zOq]
 | y::l,x=>by have:=zTq l x;simp only[zOq,jAl];split<;>omega
theorem zPI:∀(l:List Id) (x:Id),zDj l x=if l[zOq l x]?=some x then l else l.take (zOq l x)++x::l.drop (zOq l x)
 | [],x=>by simp[zDj,zOq]
 | y::l,x=>by
  simp only[zDj,zOq];by_cases h:zA8 y x=true
  ·simp only[h,if_true,jBb,zPI l x,jC6,List.drop_succ_cons];split<;>simp
  ·simp only[h];by_cases hy:y=x<;>simp[hy]
theorem zWU (l:List Id)(x:Id):(zDj l x).length≤l.length+1:=by
 rw[zPI];have:=zTq l x;split
 ·omega
 ·simp; omega
theorem zS6:∀(l acc:List Id),(l.foldl zDj acc).length≤acc.length+l.length
 | [],acc=>by simp
 | x::l,acc=>by have h1:=zS6 l (zDj acc x);have h2:=zWU acc x;simp only[jBe,jAl];omega
end Go.Proofs.YtdnelmeboihpkaaGreatDoor
