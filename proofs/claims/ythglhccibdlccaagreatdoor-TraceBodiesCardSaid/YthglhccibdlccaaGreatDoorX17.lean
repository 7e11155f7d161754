/-
  slices.SortFunc: the kit's contracts as contracts over abstract states.
-/
import Derived.Test.YthglhccibdlccaaGreatDoorX16
import Derived.Shelf.SlSortCmp.NoneTotal
set_option linter.unusedVariables false
set_option linter.unusedSimpArgs false
namespace Go.Abs
open Go.Sort Go.Proofs
section
variable {P:Program} {β : Type}{H:Mem}{L:List LI}{w:World}
theorem zN9 {g:FuncId}{args:List A}{r:Int}(h:Ret P g args [] (int r) []){vs:List Value}{W:World}(hH:∀b o v,H b o=some v→W.cell? ⟨b,o,none⟩=some v)(hvs:zV H [] args vs) :
 Calls P g vs.toArray W fun e w'=>e=.returned (.int .i64 r)∧∃q os',w'=grow (W.drewN q) os':=by
 have hs:RelSt H [] [] W:=⟨hH,rfl,fun i l o hl=>by simp at hl,fun i j l l' b hl=>by simp at hl,fun i l b hl=>by simp at hl⟩;refine(h H [] W vs hs hvs).mono fun e w' hh=>?_
 obtain⟨o,σ',H',L',ho,hn,rfl,rfl⟩:=hh;obtain⟨v,rfl,hv⟩:=ho;simp only[int,Rel]at hv;subst hv;refine⟨rfl,w'.drawn-W.drawn,w'.heap.extract W.heap.size w'.heap.size,?_⟩;have hh:w'.heap=W.heap++w'.heap.extract W.heap.size w'.heap.size:=by
  apply Array.ext_getElem?;intro k;rcases Nat.lt_or_ge k W.heap.size with hk | hk
  ·rw[Array.getElem?_append_left hk];exact hn.step.keep k hk (fun⟨i,l,hi,_⟩=>by simp at hi)
  ·rw[Array.getElem?_append_right hk,Array.getElem?_extract];split
   ·congr 1; omega
   ·rw[Array.getElem?_eq_none]; omega
 have h1:=hn.step.os;have h2:=hn.step.tape;have h3:=hn.step.output;have h4:=hn.step.drawn;cases w' with
 | mk heap tape drawn os output =>
  cases W with
  | mk heap' tape' drawn' os' output' =>
   simp only at h1 h2 h3 h4 hh;simp only[grow,World.drewN,World.mk.injEq];exact⟨hh,h2,by omega,h1,h3⟩
def zCM (us:List (β×List Value)):List Value:=us.flatMap (·.2)
@[simp] theorem qCL:zCM ([]:List (β×List Value))=[]:=rfl
@[simp] theorem zPm {p : β×List Value}{us:List (β×List Value)}:zCM (p::us)=p.2++zCM us:=rfl
def zTt (H:Mem)(encA : β→List A)(us:List (β×List Value)):Prop:=∀p∈us,zV H [] (encA p.1) p.2∧∀v∈p.2,one v
theorem zIF {encA : β→List A}(hb:∀b,zCF 0 (encA b)=true):∀(l:List β) (vs:List Value),zV H L (l.flatMap encA) vs→(∀v∈vs,one v)→∃us:List (β×List Value),us.map (·.1)=l∧zCM us=vs∧zTt H encA us
 | [],vs,h,_=>⟨[],rfl,(jK h).symm,fun p hp=>by simp at hp⟩
 | b::l,vs,h,h1=>by
  rw[List.flatMap_cons]at h;obtain⟨us,ws,rfl,k1,k2⟩:=h.split;obtain⟨rest,r1,r2,r3⟩:=zIF hb l ws k2 (fun v hv=>h1 v (List.mem_append_right _ hv));refine⟨(b,us)::rest,by simp[r1],by simp[r2],fun p hp=>?_⟩;rcases List.mem_cons.1 hp with rfl | hp
  ·exact⟨zV.levels (k:=0) (fun l hl=>by omega) _ (hb b) k1,fun v hv=>h1 v (List.mem_append_left _ hv)⟩
  ·exact r3 p hp
theorem zJ6 {encA : β→List A}(hb:∀b,zCF 0 (encA b)=true):∀{us:List (β×List Value)},zTt H encA us→zV H L ((us.map (·.1)).flatMap encA) (zCM us)∧∀v∈zCM us,one v
 | [],_=>⟨jL,by simp⟩
 | p::us,h=>by
  obtain⟨k1,k2⟩:=h p (List.mem_cons_self ..);obtain⟨r1,r2⟩:=zJ6 hb (us:=us) fun q hq=>h q (List.mem_cons_of_mem _ hq)
  refine⟨?_,fun v hv=>?_⟩
  ·simp only[List.map_cons,List.flatMap_cons,zPm];exact(zV.levels (k:=0) (fun l hl=>by omega) _ (hb p.1) k1).append r1
  ·rcases List.mem_append.1 hv with hv | hv
   ·exact k2 v hv
   ·exact r2 v hv
theorem zGS {encA : β→List A}{sz:Nat}(hlen:∀b,(encA b).length=sz):∀{us:List (β×List Value)},zTt H encA us→(zCM us).length=us.length*sz
 | [],_=>by simp
 | p::us,h=>by have:=(h p (List.mem_cons_self ..)).1.length;simp[this,hlen,zGS hlen (us:=us) fun q hq=>h q (List.mem_cons_of_mem _ hq),Nat.succ_mul,Nat.add_comm]
def zOI (P:Program)(f g:FuncId)(encA : β→List A)(cf : β→β→Int):Prop :=
 ∀(H:Mem) (w:World) (b cap:Nat) (us:List (β×List Value)),(∀b o v,H b o=some v→w.cell? ⟨b,o,none⟩=some v)→(∀o,H b o=none)→b<w.heap.size→us≠[]→us.length<4611686018427387904→zTt H encA us →
  (∀j u,(zCM us)[j]?=some u→w.cell? ⟨b,j,none⟩=some u∧w.frozen? ⟨b,j,none⟩=false) →
  Calls P f #[.slice (some ⟨b,0,none⟩) us.length cap,.func (.func g) #[] #[]] w fun e w'=>e=.returned (.tuple #[]) ∧
   ∃(us':List (β×List Value)) (n:Nat) (os:Array Obj),us'.Perm us∧us'.Pairwise (fun x y=>¬cf y.1 x.1<0)∧w'=grow (putRow id (Go.Sort.ahead w n) b 0 (zCM us').toArray) os
def zCO (cf : β→β→Int)(l:List β):List β:=l.mergeSort fun x y=>!decide (cf y x<0)
structure Ord (cf : β→β→Int):Prop where
 irrefl:∀x,¬cf x x<0
 trans:∀x y z,cf x y<0→cf y z<0→cf x z<0
 ntrans:∀x y z,¬cf x y<0→¬cf y z<0→¬cf x z<0
 anti:∀x y,¬cf x y<0→¬cf y x<0→x=y
theorem zM5 {cf : β→β→Int}(ho:Ord cf){l l':List β}(hp:l'.Perm l)(hs:l'.Pairwise fun x y=>¬cf y x<0):l'=zCO cf l:=by
 have h1:=List.pairwise_mergeSort (le:=fun x y=>!decide (cf y x<0)) (fun a b c h1 h2=>by simp only[Bool.not_eq_true',decide_eq_false_iff_not]at *; exact ho.ntrans c b a h2 h1)
  (fun a b=>by
   simp only[Bool.or_eq_true,Bool.not_eq_true',decide_eq_false_iff_not];by_cases h:cf b a<0
   ·exact .inr fun h'=>ho.irrefl _ (ho.trans _ _ _ h h')
   ·exact .inl h) l
 refine List.Perm.eq_of_pairwise (le:=fun x y=>¬cf y x<0) (fun a b _ _ h1 h2=>ho.anti a b h2 h1) hs ?_ (hp.trans (List.mergeSort_perm l _).symm);exact h1.imp (fun h=>by simpa using h)
theorem zOh {b:Nat}{cur:Array Value}{e:TypeId}(hh:w.heap[b]?=some (.cells cur e (0,0)))(n:Nat)(F:Array Value)(os:Array Obj) :
 (grow (putRow id (Go.Sort.ahead w n) b 0 F) os).heap[b]?=some (.cells (putCells id 0 F cur) e (0,0)):=by
 have hlt:b<w.heap.size:=(Array.getElem?_eq_some_iff.1 hh).1;simp only[grow];rw[Array.getElem?_append_left (by simpa [Go.Sort.ahead] using hlt)];simp only[putRow,mapBlock,Array.getElem?_modify,if_true];simp only[Go.Sort.ahead,hh,Option.map_some,onCells]
theorem zHh {b k:Nat}(hk:k<w.heap.size)(hne:k≠b)(n:Nat)(F:Array Value)(os:Array Obj):(grow (putRow id (Go.Sort.ahead w n) b 0 F) os).heap[k]?=w.heap[k]?:=by simp only[grow];rw[Array.getElem?_append_left (by simpa [Go.Sort.ahead] using hk)];simp only[putRow,mapBlock,Array.getElem?_modify,Go.Sort.ahead];rw[if_neg (Ne.symm hne)]
theorem zKK {F cur:Array Value}(h:F.size≤cur.size):(putCells id 0 F cur).size=cur.size∧(putCells id 0 F cur).toList.take F.size=F.toList:=by
 have hsz:(putCells id 0 F cur).size=cur.size:=by simp[putCells]
 refine⟨hsz,?_⟩;apply List.ext_getElem?;intro i;rw[List.getElem?_take];split
 ·rename_i hi;have hi2:i<cur.size:=by omega
  simp[putCells,hi,hi2]
 ·rename_i hi;rw[List.getElem?_eq_none (by simp; omega)]
theorem zVc {σ : St}(hs:RelSt H L σ w){l:Nat}{li:LI}{b:Nat}{o:AObj}{w':World}(hl:L[l]?=some li)(hb:li.block=some b)
 (hos:w'.os=w.os)(htape:w'.tape=w.tape)(hout:w'.output=w.output)(hdr:w.drawn≤w'.drawn)(hnd:∀d,w.heap[b]?≠some (.deferred d))(hsz:w.heap.size≤w'.heap.size)(hkeep:∀k,k<w.heap.size→k≠b→w'.heap[k]?=w.heap[k]?)
 (hnone:∀o',H b o'=none)(ho:zS H L w' li o):Nxt H L w H L (σ.set l o) w':=by
 have hne:∀(i:Nat) l' b',L[i]?=some l'→l'.block=some b'→i≠l→b'≠b:=fun i l' b' h1 h2 hi e=>hi (hs.inj i l l' li b' h1 hl h2 (by rw[hb,e]))
 refine⟨⟨fun b' o' v hv=>?_,by simp[hs.len],fun i l' o' hL hσ=>?_,hs.inj,fun i l' b' h1 h2=>Nat.lt_of_lt_of_le (hs.lt i l' b' h1 h2) hsz⟩,
  ⟨hos,htape,hout,hsz,fun k hk hn=>hkeep k hk (fun e=>hn ⟨l,li,hl,by rw[hb,e]⟩),HLe.refl _,fun _ _ _ h=>.inl h,hdr,fun k d hk=>?_⟩,LLe.refl _,fun _ h=>.inl h⟩
 ·have hbb:b'≠b:=fun e=>by subst e; rw[hnone]at hv; cases hv
  have hc:=hs.pers b' o' v hv;have hlt:=hs.h_lt hv;simp only[World.cell?]at hc ⊢;rw[hkeep b' hlt hbb];exact hc
 ·by_cases hi:i=l
  ·subst hi;rw[hl]at hL;cases hL;rw[List.getElem?_set_self (by rw[←hs.len]; exact(List.getElem?_eq_some_iff.1 hl).1)]at hσ;cases hσ;exact ho
  ·rw[List.getElem?_set_ne (Ne.symm hi)]at hσ;exact(hs.obj i l' o' hL hσ).carry (fun b' hb'=>hkeep b' (hs.lt i l' b' hL hb') (hne i l' b' hL hb' hi)) (HLe.refl _) (LLe.refl _) (fun _ _ _=>rfl)
 ·have hks:=(Array.getElem?_eq_some_iff.1 hk).1;by_cases hkb:k=b
  ·subst hkb; exact(hnd d hk).elim
  ·rw[hkeep k hks hkb]; exact hk
theorem zV1 {f g:FuncId}{encA : β→List A}{cf : β→β→Int}{sz:Nat}(hsz:0<sz)(hlen:∀b,(encA b).length=sz)(hb:∀b,zCF 0 (encA b)=true)(ho:Ord cf)(e:TypeId)
 (hS:zOI P f g encA cf)(hnone:∀(p:Option Addr)(cap:Nat)(fv:Value)(w:World),Calls P f #[.slice p 0 cap,fv] w fun e w'=>e=.returned (.tuple #[])∧w'=w)(l:List β)(hmx:l.length<4611686018427387904) :
 Ret P f [.row 0 l.length,.clo g [] []] [.row false e sz l.length (l.flatMap encA)] (.tup []) [.row false e sz l.length ((zCO cf l).flatMap encA)]:=by
 intro H L w vs hs hvs;obtain⟨v,vs',rfl,h1,h2⟩:=zY hvs;obtain⟨fv,vs'',rfl,h3,h4⟩:=zY h2;have:=jK h4;subst this;simp only[Rel]at h3;obtain⟨fs,cs,rfl,k1,k2⟩:=h3;have:=jK k1;subst this;have:=jK k2;subst this;simp only[Rel]at h1;obtain⟨_,li,e1,e2,e3,hv⟩:=h1;have hob:=hs.obj 0 li _ e1 rfl;simp only[zS]at hob;obtain⟨_,hln,hcl,hob⟩:=hob;have hv:=hv hln.symm;have htup:Rel H L (.tup []) (.tuple #[]):=by simp[Rel,zV]
 by_cases hl:l=[]
 ·subst hl;have hsl:∃p cap,v=.slice p 0 cap:=by
   rw[hv];split
   ·exact⟨_,_,rfl⟩
   ·exact⟨_,_,rfl⟩
  obtain⟨p,cap,rfl⟩:=hsl;refine(hnone p cap _ w).mono fun e' w' hh=>?_
  obtain⟨rfl,rfl⟩:=hh;exact⟨.ret (.tup []),_,H,L,⟨_,rfl,htup⟩,Nxt.refl hs,rfl,by simp[zCO]⟩
 ·rcases hob with ⟨hbk,h0⟩ | ⟨b,cur,hbk,hh,g1,g2,g3,g4,g5,g6⟩
  ·exact(hl (List.eq_nil_of_length_eq_zero h0)).elim
  ·rw[hbk]at hv;subst hv;obtain⟨us,u1,u2,u3⟩:=zIF hb l _ g4 g5;have hul:us.length=l.length:=by rw[←u1]; simp
   have hus:us≠[]:=fun h=>hl (by rw[←u1,h]; rfl)
   have hlt:=hs.lt 0 li b e1 hbk;have hcell:∀j u,(zCM us)[j]?=some u→w.cell? ⟨b,j,none⟩=some u∧w.frozen? ⟨b,j,none⟩=false:=fun j u hu=>by
    rw[u2,List.getElem?_take]at hu;split at hu
    ·refine⟨?_,by simp[World.frozen?,hh]⟩;rw[cell_of_row w b j cur e (0,0) hh]
     simpa using hu
    ·cases hu
   have hmax:us.length<4611686018427387904:=by rw[hul]; exact hmx
   have hc:=hS H w b li.cap us (fun b o v=>hs.pers b o v) g6 hlt hus hmax u3 hcell;rw[hul]at hc;refine hc.mono fun e' w' hx=>?_
   obtain⟨rfl,us',n,os,hp,hsrt,rfl⟩:=hx;have u3':zTt H encA us':=fun p hp'=>u3 p (hp.mem_iff.1 hp')
   have hl':(us'.map (·.1))=zCO cf l:=by refine zM5 ho (by rw[←u1]; exact hp.map _) ?_;rw[List.pairwise_map];exact hsrt
   obtain⟨j1,j2⟩:=zJ6 (L:=L) hb u3';rw[hl']at j1;have hfl:(zCM us').length=l.length*sz:=by rw[zGS hlen u3',hp.length_eq,hul]
   have hfit:(zCM us').toArray.size≤cur.size:=by rw[List.size_toArray,hfl,g3];exact Nat.mul_le_mul_right _ g1
   obtain⟨p1,p2⟩:=zKK hfit;rw[List.size_toArray,hfl]at p2;have hnx:=zVc hs e1 hbk (o:=.row false e sz l.length ((zCO cf l).flatMap encA)) (w':=grow (putRow id (Go.Sort.ahead w n) b 0 (zCM us').toArray) os) rfl rfl rfl (by simp[grow,Go.Sort.ahead]) (fun d=>by rw[hh]; simp) (by simp[grow,Go.Sort.ahead]) (fun k hk hne=>zHh hk hne n _ os) g6 (by
    simp only[zS];refine⟨e2,hln,?_,.inr ⟨b,_,hbk,zOh hh n _ os,g1,g2,by rw[p1]; exact g3,?_,?_,g6⟩⟩
    ·rw[←j1.length,hfl]
    ·rw[p2]; exact j1
    ·rw[p2]; exact j2)
   exact⟨.ret (.tup []),_,H,L,⟨_,rfl,htup⟩,hnx,rfl,rfl⟩
theorem zNt {α : Type}{enc : α→List Value}{k:Nat}(hk:∀x,(enc x).length=k):∀(l:List α) (i j:Nat) (hi:i<l.length),j<k→(l.flatMap enc)[i*k+j]?=(enc l[i])[j]?
 | [],i,j,hi,_=>by simp at hi
 | x::l,0,j,_,hj=>by rw[List.flatMap_cons,List.getElem?_append_left (by rw[hk]; omega)];simp
 | x::l,i+1,j,hi,hj=>by
  have hi':i<l.length:=by simpa using hi
  rw[List.flatMap_cons,List.getElem?_append_right (by rw[hk,Nat.succ_mul]; omega),hk];have:(i+1)*k+j-k=i*k+j:=by rw[Nat.succ_mul]; omega
  rw[this,zNt hk l i j hi' hj];rfl
theorem zI1 {α : Type}{enc : α→List Value}{k:Nat}(hk:∀x,(enc x).length=k):∀(l:List α),(l.flatMap enc).length=l.length*k
 | []=>by simp
 | x::l=>by rw[List.flatMap_cons,List.length_append,hk,zI1 hk l,List.length_cons,Nat.succ_mul,Nat.add_comm]
theorem zPl {α : Type} [Inhabited α]{enc : α→List Value}{k:Nat}(hk:∀x,(enc x).length=k)(d:Array α):(flatK enc k d).toList=d.toList.flatMap enc:=by
 apply List.ext_getElem?;intro t;rcases Nat.lt_or_ge t (d.size*k)with ht | ht
 ·have k0:0<k:=by
   rcases Nat.eq_zero_or_pos k with h | h
   ·subst h; simp at ht
   ·exact h
  have hq:t / k<d.toList.length:=by rw[Array.length_toList]; exact Nat.div_lt_of_lt_mul (by rw[Nat.mul_comm]; exact ht)
  have hm:=Nat.mod_lt t k0;have he:t=t / k*k+t % k:=by rw[Nat.mul_comm]; exact(Nat.div_add_mod t k).symm
  have h1:(flatK enc k d)[t]! = (enc d[t / k]!)[t % k]! := get_flatK enc k d t ht;have hts:t<(flatK enc k d).size:=by rw[size_flatK]; exact ht
  have h2:(d.toList.flatMap enc)[t]?=(enc d.toList[t / k])[t % k]?:=by
   conv=>lhs; rw[he]
   exact zNt hk _ _ _ hq hm
  rw[h2];have hq':t / k<d.size:=by simpa using hq
  have hmm:t % k<(enc d[t / k]).length:=by rw[hk]; exact hm
  rw[getElem!_pos _ t hts,getElem!_pos d (t / k) hq',getElem!_pos _ (t % k) hmm]at h1;rw[Array.getElem?_toList,Array.getElem?_eq_getElem hts,h1];simp[hmm]
 ·rw[List.getElem?_eq_none (by simpa using ht),List.getElem?_eq_none (by rw[zI1 hk]; simpa using ht)]
theorem zOc {α : Type} [Inhabited α]{d d':Array α}(h:PermIn 0 d.size d d'):d'.toList.Perm d.toList:=by
 obtain⟨h1,_,h3⟩:=h;have e1:d'.extract 0 d.size=d':=by rw[←h1]; simp
 rw[e1]at h3
 simpa using h3
theorem zKM {α : Type} [Inhabited α]{lt : α→α→Bool}{d:Array α}{n:Nat}(hn:n=d.size)(h:SortedIn lt 0 n d):d.toList.Pairwise fun x y=>lt y x=false:=by
 subst hn;rw[List.pairwise_iff_getElem];intro i j hi hj hij;have hi':i<d.size:=by simpa using hi
 have hj':j<d.size:=by simpa using hj
 have:=h i j (Nat.zero_le _) hij hj';rw[getElem!_pos d i hi',getElem!_pos d j hj']at this
 simpa using this
theorem qBY {β : Type}{cf : β→β→Int}(ho:Ord cf) {α : Type}(p : α→β):SWO (Go.Proofs.ltOf fun x y : α=>cf (p x) (p y)) where
 irrefl x:=by simpa [Go.Proofs.ltOf] using ho.irrefl (p x)
 trans x y z h1 h2:=by simp only[Go.Proofs.ltOf,decide_eq_true_eq]at *; exact ho.trans _ _ _ h1 h2
 ntrans x y z h1 h2:=by simp only[Go.Proofs.ltOf,decide_eq_false_iff_not]at *; exact ho.ntrans _ _ _ h1 h2
theorem zR2 {b b' o:Nat}{F:Array Value}{n:Nat}{os:Array Obj}{v:Value}(hne:b'≠b)(h:w.cell? ⟨b',o,none⟩=some v):(grow (putRow id (Go.Sort.ahead w n) b 0 F) os).cell? ⟨b',o,none⟩=some v:=by have hlt:=World.block_lt_of_cell? w _ h;simp only[World.cell?]at h⊢;rw[zHh hlt hne];exact h
theorem qBS {f g:FuncId}{encA : β→List A}{cf : β→β→Int}{k:Nat}(hlen:∀b,(encA b).length=k)(ho:Ord cf)(hcmp:∀a b,Ret P g [.agg (encA a),.agg (encA b)] [] (int (cf a b)) [])
 (hkit:∀(α : Type) [Inhabited α](enc : α→List Value)(_:∀x,(enc x).length=k)(_:∀x,∀v∈enc x,v.oneCell'=true)(cf : α→α→Int)(_:SWO (Go.Proofs.ltOf cf))(blk off cap:Nat)(d:Array α)(w:World)
  (_:Go.Proofs.CmpLays P g #[] enc k cf blk off d.size w)(_:HoldsK enc k w blk off d)(_:blk<w.heap.size)(_:d.size<4611686018427387904),
  Calls P f #[.slice (some ⟨blk,off,none⟩) d.size cap,.func (.func g) #[] #[]] w fun e w'=>e=.returned (.tuple #[])∧∃d' n os,PermIn 0 d.size d d'∧SortedIn (Go.Proofs.ltOf cf) 0 d.size d'∧w'=sortWorldK enc k w blk off n d' os):zOI P f g encA cf:=by
 intro H w b cap us hH hnone hlt hus hmax hrel hcell;let α:={p : β×List Value // (zV H [] (encA p.1) p.2∧∀v∈p.2,one v)};let d:Array α:=(us.attach.map fun p=>(⟨p.1,hrel p.1 p.2⟩ : α)).toArray;have hdm:d.toList.map (·.1)=us:=by simp only[d,List.map_map,Function.comp_def];exact(List.attach_map_val (f:=id)).trans (List.map_id us)
 have hds:d.size=us.length:=by simp[d]
 have:Inhabited α:=⟨⟨us.head hus,hrel _ (List.head_mem hus)⟩⟩;let enc : α→List Value:=fun x=>x.1.2
 have hk:∀x,(enc x).length=k:=fun x=>by rw[←hlen x.1.1]; exact x.2.1.length
 have hflat:∀dd:Array α,(flatK enc k dd).toList=zCM (dd.toList.map (·.1)):=fun dd=>by rw[zPl hk,zCM,List.flatMap_map]
 have hne:∀b' o v,H b' o=some v→b'≠b:=fun b' o v h e=>by subst e; rw[hnone]at h; cases h
 have hk2:=hkit α enc hk (fun x v hv=>x.2.2 v hv) (fun x y=>cf x.1.1 y.1.1) (qBY ho fun x : α=>x.1.1) b 0 cap d w ?_ ?_ hlt (by rw[hds]; exact hmax)
 ·rw[hds]at hk2;refine hk2.mono fun e w' hx=>?_
  obtain⟨rfl,d',n,os,hp,hs,rfl⟩:=hx;refine⟨rfl,d'.toList.map (·.1),n,os,?_,?_,?_⟩
  ·rw[←hds]at hp;have:=(zOc hp).map (·.1);rw[hdm]at this;exact this
  ·rw[List.pairwise_map];have hsz':us.length=d'.size:=by rw[hp.1,hds]
   exact(zKM hsz' hs).imp fun h=>by simpa [Go.Proofs.ltOf] using h
  ·simp only[sortWorldK,putRowK];rw[←hflat d']
 ·intro m os dk hsz x y;have hW:∀b' o v,H b' o=some v→(sortWorldK enc k w b 0 m dk os).cell? ⟨b',o,none⟩=some v:=fun b' o v h=>zR2 (hne b' o v h) (hH b' o v h)
  have:=zN9 (hcmp x.1.1 y.1.1) hW (vs:=[.agg (enc x).toArray,.agg (enc y).toArray]) (by
   refine qS ?_ (qS ?_ jL)
   ·simp only[Rel]; exact⟨_,rfl,x.2.1,x.2.2⟩
   ·simp only[Rel]; exact⟨_,rfl,y.2.1,y.2.2⟩)
  simpa using this
 ·intro j hj;have hj':j<(flatK enc k d).toList.length:=by simpa using hj
  have h1:(zCM us)[j]?=some ((flatK enc k d)[j]!):=by rw[←hdm,←hflat d,List.getElem?_eq_getElem hj',getElem!_pos _ j hj];simp
  simpa using hcell j _ h1
end
end Go.Abs
