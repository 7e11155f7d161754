/-
  The small code K, how the model's code compiles to it, and what an operation of it does to an abstract state.
-/
import Derived.Test.YthglhccibdlccaaGreatDoorX1
set_option linter.unusedVariables false
set_option linter.unusedSimpArgs false
namespace Go.Abs
inductive SK where
 | b | i | s
 deriving DecidableEq,Inhabited
inductive MOp where
 | mk (nk:Nat)
 | get (nk:Nat) (z:Value) (ok:Bool)
 | set (nk:Nat)
 | del (nk:Nat)
 | rng
 | nxt
 | ent
 | clr (sz:Nat) (zs:List Value)   -- the cells of a row's part are made zero
 | mks (e:TypeId) (sz bytes:Nat) (zs:List Value)   -- a row of zeros
 | cvt (k:IntKind)   -- an integer as one of another kind
 | str   -- bytes as a string
 | boom      -- what is never reached
 deriving Inhabited
inductive KOp where
 | mov (d:Option Nat) (x:Operand)
 | pick (d:Option Nat) (c a b:Operand)
 | alloc (d:Option Nat) (zs:List Value)
 | box (d:Option Nat) (x:Operand)
 | build (d:Option Nat) (zero:List Value) (parts:List (Nat×Nat×Operand))
 | bslice (d:Option Nat) (e:TypeId) (sz n:Nat) (zero:List Value) (parts:List (Nat×Nat×Operand))
 | brow (d:Option Nat) (e:TypeId) (sz n:Nat) (zero:List Value) (parts:List (Nat×Nat×Operand))   -- a 'bslice' as a row that can be written
 | isn (d:Option Nat) (neg:Bool) (x:Operand)   -- a slice against nil
 | isz (d:Option Nat) (neg:Bool) (x:Operand)   -- an 'isn' of a slice that may be nil or empty
 | ld (d:Option Nat) (x:Operand) (n:Nat) (agg:Bool)
 | st (d:Option Nat) (x v:Operand) (n:Nat)
 | addr (d:Option Nat) (x:Operand) (off:Nat)
 | idx (d:Option Nat) (x i:Operand) (sz:Nat)
 | idxarr (d:Option Nat) (x i:Operand) (len sz:Nat)
 | fld (d:Option Nat) (x:Operand) (off n:Nat) (agg:Bool)
 | ix (d:Option Nat) (x i:Operand) (len sz:Nat) (agg:Bool)
 | bin (d:Option Nat) (op:BinOp) (x y:Operand)
 | eqv (d:Option Nat) (neg:Bool) (k:SK) (x y:Operand)
 | eqs (d:Option Nat) (neg:Bool) (ks:List SK) (x y:Operand)
 | neg (d:Option Nat) (x:Operand)
 | not (d:Option Nat) (x:Operand)
 | len (d:Option Nat) (str:Bool) (x:Operand)
 | mm (d:Option Nat) (max:Bool) (xs:List Operand)
 | app (d:Option Nat) (e:TypeId) (sz bytes:Nat) (x y:Operand)
 | slc (d:Option Nat) (x:Operand) (sz:Nat) (lo hi mx:Option Operand)
 | rslc (d:Option Nat) (x:Operand) (sz:Nat) (lo hi:Option Operand)   -- a 'slc' of a row
 | ext (d:Option Nat) (x:Operand) (i:Nat)
 | clo (d:Option Nat) (f:FuncId) (first cap:List Operand)
 | call (d:Option Nat) (f:Operand) (args:List Operand)
 | nilc (d:Option Nat) (x:Operand)
 | alr (d:Option Nat) (q:Nat) (zero:List Value)   -- 'alloc',at a level that is kept for it
 | isp (d:Option Nat) (neg:Bool) (x:Operand)   -- a pointer against nil
 | mki (d:Option Nat) (t:TypeId) (x:Operand)   -- a value as one of an interface
 | pan (d:Option Nat) (x:Operand)   -- a panic
 | mop (d:Option Nat) (m:MOp) (xs:List Operand)
 deriving Inhabited
structure KG where
 guard:Option (Nat×Bool)
 op:KOp
 deriving Inhabited
inductive K where
 | skip
 | seq (a b:K)
 | cond (c:Operand) (a b:K)
 | block (id:Nat) (b:K)
 | loop (b:K)
 | exit (id:Nat)
 | ret
 | ops (l:List KG)
 | dops (l:List (Nat×Nat×KG))   -- an operation's number in the text,its flag,itself
 | rng (f:Operand) (ps:List Nat) (a b:K)
 | wk (b:K)      -- a place where the state may be weakened; no code
 deriving Inhabited
def KOp.erase:KOp→KOp
 | .brow d e sz n zero parts=>.bslice d e sz n zero parts
 | .alr d _ zero=>.alloc d zero
 | .rslc d x sz lo hi=>.slc d x sz lo hi none
 | .isz d ng x=>.isn d ng x
 | k=>k
def KG.erase (g:KG):KG:=⟨g.guard,g.op.erase⟩
def K.erase:K→K
 | .seq a b=>.seq a.erase b.erase
 | .ops l=>.ops (l.map KG.erase)
 | .rng f ps a b=>.rng f ps a.erase b.erase
 | .cond c a b=>.cond c a.erase b.erase
 | .block id b=>.block id b.erase
 | .loop b=>.loop b.erase
 | .wk b=>b.erase
 | k=>k
def KOp.dst:KOp→Option Nat
 | .mov d _ | .pick d _ _ _ | .alloc d _ | .box d _ | .build d _ _ | .bslice d _ _ _ _ _ | .brow d _ _ _ _ _ | .isn d _ _ | .isz d _ _ | .ld d _ _ _ | .st d _ _ _ | .addr d _ _ | .idx d _ _ _ | .idxarr d _ _ _ _
 | .fld d _ _ _ _ | .ix d _ _ _ _ _ | .bin d _ _ _ | .eqv d _ _ _ _ | .eqs d _ _ _ _ | .neg d _ | .not d _ | .len d _ _ | .mm d _ _ | .app d _ _ _ _ _ | .slc d _ _ _ _ _ | .rslc d _ _ _ _ | .ext d _ _ | .clo d _ _ _ | .call d _ _ | .nilc d _ | .mop d _ _ | .alr d _ _ | .mki d _ _ | .pan d _ | .isp d _ _=>d
def KOp.reads:KOp→List Operand
 | .mov _ x | .isn _ _ x | .isz _ _ x | .box _ x | .ld _ x _ _ | .addr _ x _ | .fld _ x _ _ _ | .neg _ x | .not _ x | .len _ _ x | .ext _ x _ | .nilc _ x | .mki _ _ x | .pan _ x | .isp _ _ x=>[x]
 | .pick _ a b c=>[a,b,c]
 | .alloc _ _ | .alr _ _ _=>[]
 | .build _ _ ps | .bslice _ _ _ _ _ ps | .brow _ _ _ _ _ ps=>ps.map fun p=>p.2.2
 | .st _ x v _=>[x,v]
 | .idx _ x i _ | .idxarr _ x i _ _ | .ix _ x i _ _ _ | .bin _ _ x i | .eqv _ _ _ x i | .eqs _ _ _ x i | .app _ _ _ _ x i=>[x,i]
 | .mm _ _ xs | .mop _ _ xs=>xs
 | .slc _ x _ lo hi mx=>x::(lo.toList++hi.toList++mx.toList)
 | .rslc _ x _ lo hi=>x::(lo.toList++hi.toList++(none:Option Operand).toList)
 | .clo _ _ first cap=>first++cap
 | .call _ f args=>f::args
def KG.looks (g:KG):List Nat :=
 (g.op.reads.filterMap fun x=>match x with | .tmp t=>some t | _=>none)++(match g.guard with | some (s,_)=>[s] | none=>[])
def yY (l:List Value):Bool:=l.all (·.oneCell')
def zHd:TypeDesc→Bool
 | .struct _ | .array _ _=>true
 | _=>false
def zA (P:Program)(f:FuncId):Bool :=
 match P.funcs[f]? with
 | some fn=>fn.body.isSome&&!(fn.name == "runtime.NumGoroutine")
 | none=>false
def zKS (P:Program)(t:TypeId):Option SK :=
 match P.underlying t with
 | some .bool=>some .b
 | some (.int _)=>some .i
 | some .string=>some .s
 | _=>none
def zEu (P:Program):Nat→List Field→Option (List SK)
 | _,[]=>some []
 | o,f::fs=>if f.offset=o∧f.name ≠ "_" then (match zKS P f.type,zEu P (o+1) fs with
  | some k,some ks=>some (k::ks)
  | _,_=>none) else none
def zMI (P:Program)(t:TypeId):Option (List SK) :=
 match P.underlying t with
 | some (.struct fs)=>if P.stoodInHeld t||P.eqGuardType P.depth t then none else zEu P 0 fs.toList
 | _=>none
def skN (P:Program):Nat→List Field→Option (List SK)
 | _,[]=>some []
 | o,f::fs=>if f.offset=o∧f.name ≠ "_" then (match zKS P f.type with
  | some k=>(skN P (o+1) fs).map fun ks=>k::ks
  | none=>match P.underlying f.type with
   | some (.struct gs)=>if P.stoodInHeld f.type then none else (match zEu P 0 gs.toList,P.info? f.type with
    | some ks,some j=>if j.size=ks.length then (skN P (o+ks.length) fs).map fun ks'=>ks++ks' else none
    | _,_=>none)
   | _=>none) else none
def zMS (P:Program)(t:TypeId):Option (List SK) :=
 match P.underlying t with
 | some (.struct fs)=>if P.stoodInHeld t||P.eqGuardType P.depth t then none else skN P 0 fs.toList
 | _=>none
def zEi (P:Program)(g:TypeId→Option Nat):Nat→List Field→Option Nat
 | o,[]=>some o
 | o,f::fs=>if f.offset=o∧f.name ≠ "_" then (match g f.type with
  | some n=>if (P.info? f.type).map (·.size)=some n then zEi P g (o+n) fs else none
  | none=>none) else none
def zDb (P:Program):Nat→TypeId→Option Nat
 | 0,_=>none
 | d+1,t=>match P.underlying t with
  | some (.int .i64)=>some 1
  | some (.struct fs)=>if P.stoodInHeld t then none else zEi P (zDb P d) 0 fs.toList
  | _=>none
def zH3 (P:Program)(t:TypeId):Option Nat:=match P.underlying t with
 | some (.struct _)=>zDb P 20 t
 | _=>none
def zV1 (P:Program)(t:TypeId):Option Nat:=match P.underlying t with
 | some (.map k _)=>zH3 P k
 | _=>none
def zK0 (P:Program)(t:TypeId)(y:Operand):Bool:=match P.underlying t,y with
 | some (.slice _),.const (.slice none 0 0)=>true
 | _,_=>false
def zRs (P:Program)(t:TypeId)(y:Operand):Bool:=match P.underlying t,y with
 | some (.pointer _),.const (.pointer none)=>true
 | _,_=>false
def eqX (P:Program)(t:TypeId)(d:Option Nat)(neg:Bool)(x y:Operand):Option KOp:=if zRs P t y then some (.isp d neg x) else match zMI P t with
 | some ks=>some (.eqs d neg ks x y)
 | none=>(zMS P t).map fun ks=>.eqs d neg ks x y
theorem zFW {P:Program}{t:TypeId}{d:Option Nat}{neg:Bool}{x y:Operand}{k:KOp}(h:eqX P t d neg x y=some k):(zRs P t y=true∧k=.isp d neg x)∨∃ks,(zMI P t=some ks∨zMS P t=some ks)∧k=.eqs d neg ks x y:=by
 unfold eqX at h;split at h
 ·rename_i hp;cases h;exact .inl ⟨hp,rfl⟩
 ·split at h
  ·rename_i ks hk;cases h;exact .inr ⟨ks,.inl hk,rfl⟩
  ·simp only[Option.map_eq_some_iff]at h;obtain⟨ks,h1,rfl⟩:=h;exact .inr ⟨ks,.inr h1,rfl⟩
def zDl (place:Nat→Option (Nat×Nat))(parts:List (Nat×Operand)):Option (List (Nat×Nat×Operand)) :=
 parts.mapM fun(i,x)=>(place i).map fun(off,size)=>(off,size,x)
def zDM (P:Program)(fs:List Field)(i:Nat):Option (Nat×Nat) :=
 match fs[i]? with
 | some f=>match P.info? f.type with
  | some j=>some (f.offset,j.size)
  | none=>none
 | none=>none
def zAj (P:Program)(o:Oper):Option KOp :=
 match o.op with
 | .move x=>some (.mov o.dst x)
 | .assign x=>some (.mov o.dst x)
 | .pick c a b=>some (.pick o.dst c a b)
 | .alloc e=>do
  let z ←(←P.info? e).zero
  if yY z.cells.toList then some (.alloc o.dst z.cells.toList) else none
 | .box _ x=>some (.box o.dst x)
 | .load t x=>do
  let u ←P.underlying t;let i ←P.info? t
  some (.ld o.dst x i.size (zHd u))
 | .store t a x=>do
  let i ←P.info? t
  some (.st o.dst a x i.size)
 | .fieldAddr s x f =>
  match P.underlying s with
  | some (.struct fs)=>do
   let g ←fs[f]?;let i ←P.info? g.type
   if i.size=0 then none else some (.addr o.dst x g.offset)
  | _=>none
 | .indexAddr t x i =>
  match P.underlying t with
  | some (.slice e)=>do some (.idx o.dst x i (←P.info? e).size)
  | some (.array n e)=>do some (.idxarr o.dst x i n (←P.info? e).size)
  | _=>none
 | .field t x f =>
  match P.underlying t with
  | some (.struct fs)=>do
   let g ←fs[f]?;let u ←P.underlying g.type;let i ←P.info? g.type
   some (.fld o.dst x g.offset i.size (zHd u))
  | _=>none
 | .index t x i =>
  match P.underlying t with
  | some (.array n e)=>do
   let u ←P.underlying e;let j ←P.info? e
   some (.ix o.dst x i n j.size (zHd u))
  | _=>none
 | .binOp op t x y _ =>
  match op with
  | .add | .sub | .mul | .quo | .rem | .lss | .leq | .gtr | .geq=>some (.bin o.dst op x y)
  | .eql=>match zKS P t with
   | some k=>some (.eqv o.dst false k x y)
   | none=>if zK0 P t y then some (.isn o.dst false x) else eqX P t o.dst false x y
  | .neq=>match zKS P t with
   | some k=>some (.eqv o.dst true k x y)
   | none=>if zK0 P t y then some (.isn o.dst true x) else eqX P t o.dst true x y
  | _=>none
 | .unOp op _ x =>
  match op with
  | .neg=>some (.neg o.dst x)
  | .not=>some (.not o.dst x)
  | _=>none
 | .extract t i=>some (.ext o.dst t i)
 | .makeFunc (.func f) first cap=>some (.clo o.dst f first.toList cap.toList)
 | .slice t x lo hi mx =>
  match P.underlying t with
  | some (.slice e)=>do some (.slc o.dst x (←P.info? e).size lo hi mx)
  | _=>none
 | .build t parts =>
  match P.underlying t with
  | some (.struct fs)=>do
   let z ←(←P.info? t).zero
   if yY z.cells.toList&&fs.all (fun f=>(P.info? f.type).isSome) then some (.build o.dst z.cells.toList (←zDl (zDM P fs.toList) parts.toList)) else none
  | some (.array _ e)=>do
   let z ←(←P.info? t).zero;let j ←P.info? e
   if yY z.cells.toList then some (.build o.dst z.cells.toList (←zDl (fun i=>some (i*j.size,j.size)) parts.toList)) else none
  | _=>none
 | .buildSlice t len parts =>
  match P.underlying t with
  | some (.slice e)=>do
   let j ←P.info? e;let z ←j.zero
   if len*j.size≤4096&&0<j.size&&yY z.cells.toList&&z.cells.size==j.size then
    some (.bslice o.dst e j.size len ((List.replicate len z.cells.toList).flatten) (←zDl (fun i=>some (i*j.size,j.size)) parts.toList)) else none
  | _=>none
 | .call c =>
  match c.callee with
  | .value f =>
   match f with
   | .func g=>if zA P g then some (.call o.dst f c.args.toList) else none
   | .tmp _=>some (.call o.dst f c.args.toList)
   | _=>none
  | .builtin .len =>
   match c.args.toList,c.argTypes[0]? with
   | [x],some t =>
    match P.underlying t with
    | some (.slice _)=>some (.len o.dst false x)
    | some .string=>some (.len o.dst true x)
    | _=>none
   | _,_=>none
  | .builtin .delete =>
   match c.args.toList,c.argTypes[0]? with
   | [x,y],some t=>(zV1 P t).map fun nk=>.mop o.dst (.del nk) [x,y]
   | _,_=>none
  | .builtin .clear =>
   match c.args.toList,c.argTypes[0]? with
   | [x],some t =>
    match P.underlying t with
    | some (.slice e)=>do
     let j ←P.info? e;let z ←j.zero
     if yY z.cells.toList&&z.cells.size==j.size&&0<j.size then some (.mop o.dst (.clr j.size z.cells.toList) [x]) else none
    | _=>none
   | _,_=>none
  | .builtin .max=>some (.mm o.dst true c.args.toList)
  | .builtin .min=>some (.mm o.dst false c.args.toList)
  | .builtin .append =>
   match c.args.toList,c.argTypes.toList with
   | [x,y],[t,t'] =>
    if t=t' then
     match P.underlying t with
     | some (.slice e)=>do
      let j ←P.info? e;let z ←j.zero
      if yY z.cells.toList&&z.cells.size==j.size&&0<j.size then some (.app o.dst e j.size j.bytes x y) else none
     | _=>none
    else none
   | _,_=>none
  | _=>none
 | .nilCheck x=>some (.nilc o.dst x)
 | .makeMap t none=>(zV1 P t).map fun nk=>.mop o.dst (.mk nk) []
 | .lookup t x k ok =>
  match P.underlying t with
  | some (.map kt e)=>do
   let nk ←zH3 P kt;let j ←P.info? e
   some (.mop o.dst (.get nk (←j.zero) ok) [x,k])
  | _=>none
 | .mapUpdate t m k v=>(zV1 P t).map fun nk=>.mop o.dst (.set nk) [m,k,v]
 | .range t x =>
  match P.underlying t with
  | some (.map _ _)=>some (.mop o.dst .rng [x])
  | _=>none
 | .next x false=>some (.mop o.dst .nxt [x])
 | .entry x=>some (.mop o.dst .ent [x])
 | .makeInterface t x =>
  match P.underlying t with
  | some u=>match u with
   | .interface _=>none
   | _=>some (.mki o.dst t x)
  | none=>none
 | .panic x=>some (.pan o.dst x)
 | .makeSlice t x y =>
  match P.underlying t with
  | some (.slice e)=>do
   let j ←P.info? e;let z ←j.zero
   if yY z.cells.toList&&z.cells.size==j.size&&0<j.size then some (.mop o.dst (.mks e j.size j.bytes z.cells.toList) [x,y]) else none
  | _=>none
 | .convert s d x =>
  match P.underlying d with
  | some (.int k)=>if (P.underlying s).isSome then some (.mop o.dst (.cvt k) [x]) else none
  | some .string =>
   match P.underlying s with
   | some (.slice e)=>match P.underlying e with
    | some (.int .u8)=>some (.mop o.dst .str [x])
    | _=>none
   | _=>none
  | _=>none
 | _=>none
def zZD (N:Nat)(o:Oper):Bool:=match o.dst with | some d=>decide (d<N) | none=>true
def zDy (P:Program)(N:Nat)(ops:Array Oper)(o:Oper):Option KG :=
 match zAj P o with
 | none=>none
 | some k =>
  if zZD N o then
   match o.guard with
   | none=>some ⟨none,k⟩
   | some (j,want) =>
    match (ops[j]?).bind (·.dst)with
    | some s=>some ⟨some (s,want),k⟩
    | none=>none
  else none
def zBP (P:Program)(N:Nat)(ops:Array Oper):List Oper→Option (List KG)
 | []=>some []
 | o::rest=>match zDy P N ops o,zBP P N ops rest with
  | some g,some r=>some (g::r)
  | _,_=>none
def KOp.isCall:KOp→Bool
 | .call ..=>true
 | _=>false
def KOp.lite:KOp→Bool
 | .mov .. | .pick .. | .build .. | .bslice .. | .idxarr .. | .fld .. | .ix .. | .bin .. | .eqv .. | .eqs .. | .neg .. | .not .. | .len _ true _ | .mm .. | .slc .. | .ext .. | .clo .. | .isn .. | .nilc .. | .mki .. | .isp ..=>true
 | _=>false
def KOp.grows:KOp→Bool
 | .alloc .. | .box .. | .app .. | .brow .. | .alr ..=>true
 | _=>false
def KOp.keeps:KOp→Bool
 | .alloc .. | .box .. | .app .. | .st .. | .brow .. | .mop .. | .alr .. | .isz .. | .pan ..=>false
 | _=>true
def zA7 (f:Nat)(k:KOp):Bool:=k.lite||(f==2&&k.keeps&&!k.isCall)
def zDX (f:Nat)(k:KOp):Bool:=k.grows||((f==3||f==7||f==8)&&k.isCall)
def jZ (f:Nat)(k:KOp):Bool:=k.keeps&&!(k.isCall&&Nat.ble 3 f)
def zDI (ops:Array Oper)(i j:Nat):Bool:=match ops[j]? with
 | some o=>o.after.any fun e=>Region.binds .any e&&e.on==i
 | none=>false
def zFo (ops:Array Oper)(i:Nat):List Nat→List Nat→List Nat
 | [],acc=>acc
 | j::l,acc=>zFo ops i l (match ops[j]? with
  | some o=>if o.after.any (fun e=>Region.binds .any e&&(e.on==i||acc.contains e.on)) then j::acc else acc
  | none=>acc)
def zJJ (ops:Array Oper)(i:Nat):List Nat:=zFo ops i (List.range ops.size) []
def zRz (fi fj:Nat)(gi gj:KG):Bool:=fi==fj+1000&&Nat.ble 1000 fj&&Nat.blt fj 2000&&gi.guard.isNone&&gj.guard.isNone&&(match gi.op,gj.op with
 | .ld ..,.st ..=>true
 | .ld ..,.call ..=>true
 | _,_=>false)
def zYs (fi fj:Nat)(gi gj:KG):Bool:=fi==fj+1000&&Nat.ble 3000 fj&&Nat.blt fj 4000&&gi.guard.isNone&&gj.guard.isNone&&(match gi.op,gj.op with
 | .ld ..,.call ..=>true
 | .idx ..,.call ..=>true
 | .addr ..,.call ..=>true
 | _,_=>false)
def zOM (fi fj:Nat)(gi gj:KG):Bool:=zRz fi fj gi gj||zYs fi fj gi gj
def zOP (gi gj:KG):Bool:=gi.guard.isNone&&gj.guard.isNone&&(match gi.op,gj.op with
 | .alr _ q _,.alr _ q' _=>q != q'
 | _,_=>false)
def zON (fi:Nat)(gi gj:KG):Bool:=fi==7&&gi.guard.isNone&&gj.guard.isNone&&(match gi.op,gj.op with
 | .call ..,.alr ..=>true
 | _,_=>false)
def zOO (fi fj:Nat)(gi gj:KG):Bool:=fi==6&&fj==5&&gi.guard.isNone&&gj.guard.isNone&&(match gi.op,gj.op with
 | .st ..,.st ..=>true
 | .idx ..,.st ..=>true
 | _,_=>false)
def zEK (fi fj:Nat)(ki kj:KOp):Bool:=zA7 fj kj||(jZ fi ki&&(zA7 fi ki||jZ fj kj||(fi==1&&zDX fj kj)))
def qBI (ops:Array Oper)(gs:List KG)(k:Nat)(g:KG):Nat :=
 if g.op.keeps&&!g.op.lite&&(List.range ops.size).any fun j=>Nat.blt k j&&(match gs[j]? with
  | some h=>h.op.grows&&!zDI ops k j&&!(zJJ ops k).contains j
  | none=>false) then 1 else 0
def zHx (ops:Array Oper)(gs:List KG):Nat→List KG→List (Nat×Nat×KG)
 | _,[]=>[]
 | k,g::l=>(k,qBI ops gs k g,g)::zHx ops gs (k+1) l
def zK2:Nat→List KG→List (Nat×Nat×KG)
 | _,[]=>[]
 | k,g::l=>(k,0,g)::zK2 (k+1) l
def zMH (ops:Array Oper)(gs:List KG):List (Nat×Nat×KG):=if gs.any (·.op.grows) then zHx ops gs 0 gs else zK2 0 gs
def zTK (f:Nat)(g:KG):KG:=match g.op with
 | .alloc d zs=>if Nat.ble 300 f&&Nat.blt f 1000 then ⟨g.guard,.alr d (f-300) zs⟩ else g
 | .bslice d e sz n zero parts=>if f==9 then ⟨g.guard,.brow d e sz n zero parts⟩ else g
 | _=>g
def zO3 (gs:List KG):List (Nat×Nat)→Option (List (Nat×Nat×KG))
 | []=>some []
 | (k,f)::l=>match gs[k]?,zO3 gs l with
  | some g,some r=>some ((k,f,zTK f g)::r)
  | _,_=>none
def zVH (ops:Array Oper)(listed:Array Bool)(B:List Nat)(k f:Nat)(o:Oper)(g:KG)(x:Nat×Nat×KG):Bool :=
 x.1==k||listed.getD x.1 true||zDI ops k x.1||(match ops[x.1]? with
  | some p=>o.apart ops p&&(zEK f x.2.1 g.op x.2.2.op||(zOO f x.2.1 g x.2.2||(zOM f x.2.1 g x.2.2||(zOP g x.2.2||zON f g x.2.2))))
  | _=>false)||B.contains x.1
def zHL (ops:Array Oper)(all:List (Nat×Nat×KG))(listed:Array Bool)(B:List Nat)(k f:Nat)(g:KG):Bool:=B.all (fun j=>!listed.getD j true)&&match ops[k]? with
 | some o=>all.all fun x=>zVH ops listed B k f o g x
 | _=>false
def zWe (ops:Array Oper)(all:List (Nat×Nat×KG))(listed:Array Bool)(k f:Nat)(g:KG):Bool:=zHL ops all listed [] k f g||zHL ops all listed (zJJ ops k) k f g
def zJW (ops:Array Oper)(all:List (Nat×Nat×KG)):List (Nat×Nat×KG)→Array Bool→Bool
 | [],listed=>(Region.ready .any ops listed).isEmpty
 | (k,f,g)::l,listed=>(Region.ready .any ops listed).contains k&&(if f==8||f==10 then g.guard.isNone&&g.op.isCall&&Region.ready .any ops listed==[k] else zWe ops all listed k f g)&&zJW ops all l (listed.setIfInBounds k true)
def zJX (ops:Array Oper)(l:List (Nat×Nat×KG)):Bool:=zJW ops l l (Array.replicate ops.size false)&&l.length==ops.size&&(List.range ops.size).all fun j=>l.any fun x=>x.1==j
def zDL (ops:Array Oper):List Oper→List KG→Bool
 | [],[]=>true
 | o::os,g::gs=>g.looks.all (fun t=>(o.looksAt ops).contains t)&&zDL ops os gs
 | _,_=>false
def K.noRng:K→Bool
 | .seq a b | .cond _ a b=>a.noRng&&b.noRng
 | .block _ b | .loop b | .wk b=>b.noRng
 | .rng ..=>false
 | _=>true
def qC (P:Program)(N:Nat)(hint:Nat→Option (List (Nat×Nat))):Code→Option K
 | .skip=>some .skip
 | .seq a b=>match qC P N hint a,qC P N hint b with
  | some x,some y=>some (.seq x y)
  | _,_=>none
 | .cond c a b=>match qC P N hint a,qC P N hint b with
  | some x,some y=>some (.cond c x y)
  | _,_=>none
 | .block id b=>(qC P N hint b).map (.block id)
 | .loop b=>(qC P N hint b).map .loop
 | .exit id=>some (.exit id)
 | .ret=>some .ret
 | .region id ops draw =>
  match zBP P N ops ops.toList with
  | some l=>if draw then (match (match hint id with | some h=>zO3 l h | none=>some (zMH ops l))with
   | some r=>if zJX ops r&&P.follows .mixedOrders&&zDL ops ops.toList l then some (.dops r) else none
   | none=>none) else some (.ops l)
  | none=>none
 | .rangeFunc f ps a b=>match qC P N hint a,qC P N hint b with
  | some x,some y=>if x.noRng&&y.noRng&&ps.all (fun p=>Nat.blt p N) then some (.rng f ps.toList x y) else none
  | _,_=>none
 | _=>none
def zAk:Nat→Option (List (Nat×Nat)):=fun _=>none
abbrev zL (P:Program)(N:Nat)(c:Code):Option K:=qC P N zAk c
section
variable (a b c n g:Nat)(i:Int)
@[simp] def M:KG:=⟨none,.mov (some a) (.tmp b)⟩
@[simp] def kMi:KG:=⟨none,.mov (some a) (.const (.int .i64 i))⟩
@[simp] def kMb (t:Bool):KG:=⟨none,.mov (some a) (.const (.bool t))⟩
@[simp] def kMn:KG:=⟨none,.mov (some a) (.const (.slice none 0 0))⟩
@[simp] def D:KG:=⟨none,.addr (some a) (.tmp b) n⟩
@[simp] def L:KG:=⟨none,.ld (some a) (.tmp b) n false⟩
@[simp] def J:KG:=⟨none,.ld (some a) (.tmp b) n true⟩
@[simp] def S:KG:=⟨none,.st none (.tmp a) (.tmp b) n⟩
@[simp] def kX:KG:=⟨none,.idx (some a) (.tmp b) (.tmp c) n⟩
@[simp] def kXi:KG:=⟨none,.idx (some a) (.tmp b) (.const (.int .i64 i)) n⟩
@[simp] def kB (o:BinOp):KG:=⟨none,.bin (some a) o (.tmp b) (.tmp c)⟩
@[simp] def kBi (o:BinOp):KG:=⟨none,.bin (some a) o (.tmp b) (.const (.int .i64 i))⟩
@[simp] def kQ (t:Bool):KG:=⟨none,.eqv (some a) t .i (.tmp b) (.tmp c)⟩
@[simp] def kQi (t:Bool):KG:=⟨none,.eqv (some a) t .i (.tmp b) (.const (.int .i64 i))⟩
@[simp] def kPf:KG:=⟨none,.pick (some a) (.tmp b) (.tmp c) (.const (.bool false))⟩
@[simp] def kPt:KG:=⟨none,.pick (some a) (.tmp b) (.const (.bool true)) (.tmp c)⟩
@[simp] def kN:KG:=⟨none,.len (some a) false (.tmp b)⟩
@[simp] def kC (f:FuncId)(l:List Operand):KG:=⟨none,.call (some a) (.func f) l⟩
@[simp] def kO:KG:=⟨none,.box (some a) (.tmp b)⟩
@[simp] def kP (e:TypeId)(s y p q:Nat):KG:=⟨none,.app (some a) e s y (.tmp p) (.tmp q)⟩
@[simp] def kE:KG:=⟨none,.ext (some a) (.tmp b) n⟩
@[simp] def kR:KG:=⟨none,.not (some a) (.tmp b)⟩
@[simp] def kU:KG:=⟨none,.nilc (some a) (.tmp b)⟩
@[simp] def kZ (l:List Value):KG:=⟨none,.alloc (some a) l⟩
@[simp] def T (t:Bool)(k:KG):KG:=⟨some (g,t),k.op⟩
end
@[simp] def G (l:List KG)(k:K):K:=.seq (.ops l) k
@[simp] def Z (k j:K):K:=.seq k j
@[simp] def Y (n:Nat)(k j:K):K:=.cond (.tmp n) k j
@[simp] def ks:K:=.skip
@[simp] def kr:K:=.ret
@[simp] def ki:Value:=.int .i64 0
@[simp] def kl:Value:=.slice none 0 0
@[simp] def kt(n:Nat):Operand:=.tmp n
@[simp] def kc(n:Int):Operand:=.const (.int .i64 n)
@[simp] def kb(n:Nat)(l:List Value)(m:List (Nat×Nat×Operand)):KG:=⟨none,.build (some n) l m⟩
@[simp] def kd(n a b c:Nat)(l:List Value)(m:List (Nat×Nat×Operand)):KG:=⟨none,.bslice (some n) a b c l m⟩
@[simp] def kz0:List Value:=[(.int .i64 0),(.int .i64 0),(.int .i64 0),(.int .i64 0),(.int .i64 0),(.int .i64 0),(.int .i64 0),(.string ⟨#[]⟩),(.slice none 0 0),(.int .i64 0),(.int .i64 0),(.int .i64 0),(.int .i64 0),(.slice none 0 0),(.int .i64 0),(.int .i64 0),(.int .i64 0),(.int .i64 0),(.int .i64 0),(.int .i64 0),(.int .i64 0),(.int .i64 0),(.int .i64 0),(.int .i64 0),(.int .i64 0),(.int .i64 0),(.slice none 0 0),(.slice none 0 0),(.slice none 0 0),(.int .i64 0),(.slice none 0 0)]
@[simp] def kz1:List Value:=[(.int .i64 0),(.int .i64 0),(.int .i64 0),(.int .i64 0),(.int .i64 0),(.int .i64 0),(.int .i64 0),(.int .i64 0),(.int .i64 0),(.int .i64 0),(.int .i64 0),(.int .i64 0),(.slice none 0 0),(.slice none 0 0),(.slice none 0 0)]
@[simp] def kz2:List Value:=[(.int .i64 0),(.int .i64 0),(.int .i64 0),(.int .i64 0),(.slice none 0 0)]
@[simp] def kz3:List Value:=[(.int .i64 0),(.string ⟨#[]⟩),(.slice none 0 0),(.slice none 0 0),(.slice none 0 0),(.int .i64 0),(.int .i64 0),(.int .i64 0),(.int .i64 0),(.slice none 0 0),(.int .i64 0)]
@[simp] def kz4:List Value:=[(.int .i64 0),(.int .i64 0),(.int .i64 0),(.int .i64 0),(.int .i64 0),(.int .i64 0),(.int .i64 0),(.int .i64 0),(.int .i64 0),(.int .i64 0),(.int .i64 0),(.int .i64 0),(.slice none 0 0),(.slice none 0 0),(.slice none 0 0),(.int .i64 0),(.int .i64 0),(.int .i64 0),(.int .i64 0),(.int .i64 0),(.int .i64 0),(.int .i64 0),(.int .i64 0),(.int .i64 0),(.int .i64 0),(.int .i64 0),(.int .i64 0),(.slice none 0 0),(.slice none 0 0),(.slice none 0 0),(.int .i64 0),(.int .i64 0),(.int .i64 0),(.int .i64 0),(.int .i64 0),(.int .i64 0),(.int .i64 0),(.int .i64 0),(.int .i64 0),(.int .i64 0),(.int .i64 0),(.int .i64 0),(.slice none 0 0),(.slice none 0 0),(.slice none 0 0)]
@[simp] def kz5:List Value:=[(.int .i64 0),(.int .i64 0),(.int .i64 0),(.string ⟨#[]⟩),(.int .i64 0),(.int .i64 0),(.int .i64 0),(.int .i64 0),(.slice none 0 0),(.int .i64 0),(.int .i64 0)]
@[simp] def kz6:List Value:=[(.int .i64 0),(.int .i64 0),(.int .i64 0),(.int .i64 0),(.int .i64 0),(.int .i64 0),(.int .i64 0),(.int .i64 0),(.int .i64 0),(.int .i64 0),(.int .i64 0),(.int .i64 0),(.slice none 0 0),(.slice none 0 0),(.slice none 0 0),(.int .i64 0),(.int .i64 0),(.int .i64 0),(.int .i64 0),(.int .i64 0),(.int .i64 0),(.int .i64 0),(.int .i64 0),(.int .i64 0),(.int .i64 0),(.int .i64 0),(.int .i64 0),(.slice none 0 0),(.slice none 0 0),(.slice none 0 0)]
@[simp] def kz7:List Value:=[(.int .i64 0),(.int .i64 0),(.int .i64 0),(.int .i64 0),(.int .i64 0),(.int .i64 0),(.int .i64 0),(.int .i64 0),(.slice none 0 0)]
@[simp] def kz8:List Value:=[(.int .i64 0),(.int .i64 0),(.int .i64 0),(.int .i64 0),(.int .i64 0),(.int .i64 0),(.int .i64 0),(.string ⟨#[]⟩),(.slice none 0 0),(.int .i64 0),(.int .i64 0),(.int .i64 0),(.int .i64 0),(.slice none 0 0),(.int .i64 0),(.int .i64 0),(.int .i64 0),(.int .i64 0),(.int .i64 0),(.int .i64 0),(.int .i64 0),(.int .i64 0),(.int .i64 0),(.int .i64 0),(.int .i64 0),(.int .i64 0),(.slice none 0 0),(.slice none 0 0),(.slice none 0 0),(.int .i64 0),(.slice none 0 0),(.int .i64 0),(.int .i64 0),(.int .i64 0),(.int .i64 0),(.int .i64 0),(.int .i64 0),(.int .i64 0),(.string ⟨#[]⟩),(.slice none 0 0),(.int .i64 0),(.int .i64 0),(.int .i64 0),(.int .i64 0),(.slice none 0 0),(.int .i64 0),(.int .i64 0),(.int .i64 0),(.int .i64 0),(.int .i64 0),(.int .i64 0),(.int .i64 0),(.int .i64 0),(.int .i64 0),(.int .i64 0),(.int .i64 0),(.int .i64 0),(.slice none 0 0),(.slice none 0 0),(.slice none 0 0),(.int .i64 0),(.slice none 0 0)]
@[simp] def kz9:List Value:=[(.int .i64 0),(.int .i64 0),(.int .i64 0),(.string ⟨#[]⟩),(.slice none 0 0),(.slice none 0 0)]
@[simp] def zGv:List Value:=[(.int .i64 0),(.int .i64 0),(.int .i64 0),(.int .i64 0)]
@[simp] def qOA:List Value:=[(.int .i64 0),(.int .i64 0),(.int .i64 0),(.int .i64 0),(.slice none 0 0),(.int .i64 0),(.int .i64 0),(.int .i64 0),(.int .i64 0),(.slice none 0 0),(.int .i64 0),(.int .i64 0),(.int .i64 0),(.int .i64 0),(.slice none 0 0),(.int .i64 0),(.int .i64 0),(.int .i64 0),(.int .i64 0),(.slice none 0 0),(.int .i64 0),(.int .i64 0),(.int .i64 0),(.int .i64 0),(.slice none 0 0),(.int .i64 0),(.int .i64 0),(.int .i64 0),(.int .i64 0),(.slice none 0 0)]
@[simp] def zVr:List Value:=[(.string ⟨#[]⟩),(.string ⟨#[]⟩),(.string ⟨#[]⟩)]
@[simp] def qOB:List Value:=[(.int .i64 0),(.int .i64 0),(.int .i64 0),(.int .i64 0),(.slice none 0 0),(.int .i64 0),(.int .i64 0),(.int .i64 0),(.int .i64 0),(.slice none 0 0),(.int .i64 0),(.int .i64 0),(.int .i64 0),(.int .i64 0),(.slice none 0 0)]
def jC:Value→A
 | .slice none 0 0=>.nil
 | v=>.lit v
def zGl:Value→A
 | .agg cs=>if yY cs.toList then .agg (cs.toList.map jC) else .any
 | v=>jC v
def ev (env:Env):Operand→A
 | .tmp t=>env t
 | .const v=>zGl v
 | .global g=>match zRh.lookup g with
  | some vs=>if vs.all (·.oneCell') then .rptr (vs.map zMZ) else .any
  | none=>.any
 | .func f=>.clo f [] []
def cellsOf:A→Option (List A)
 | .any | .tup _=>none
 | .agg cs=>some cs
 | .lit v=>if v.oneCell' then some [.lit v] else none
 | a=>some [a]
def sub (cs:List A)(off n:Nat):Option (List A):=if off+n≤cs.length then some ((cs.drop off).take n) else none
def ldA (σ : St)(n:Nat):A→Option (List A)
 | .rptr cs=>sub cs 0 n
 | .ptr l off=>match σ[l]? with
  | some (.box cs)=>sub cs off n
  | _=>none
 | .rwp l m off=>match σ[l]? with
  | some (.row _ _ _ k cs)=>if m=k then sub cs off n else none
  | _=>none
 | _=>none
def zBq (agg:Bool)(cs:List A):Option A :=
 match agg,cs with
 | true,cs=>some (.agg cs)
 | false,[c]=>some c
 | _,_=>none
def zAV:List A→List (Nat×Nat×A)→Option (List A)
 | cs,[]=>some cs
 | cs,(off,size,a)::rest =>
  match cellsOf a with
  | some l=>if l.length=size∧off+size≤cs.length then zAV (cs.take off++l++cs.drop (off+size)) rest else none
  | none=>none
def zB6:SK→A→A→Option Prop
 | .i,.lit (.int k a),.lit (.int k' b)=>if k=k' then some (a=b) else none
 | .b,.lit (.bool a),.lit (.bool b)=>some (a=b)
 | .s,.lit (.string a),.lit (.string b)=>some (a=b)
 | _,_,_=>none
def yT:List SK→List A→List A→Option Prop
 | [],[],[]=>some True
 | k::ks,x::xs,y::ys=>match zB6 k x y,yT ks xs ys with
  | some p,some q=>some (p∧q)
  | _,_=>none
 | _,_,_=>none
def zDK (op:BinOp)(k:IntKind)(a b:Int):Option (Prop×A) :=
 match op with
 | .add=>some (True,.lit (.int k (k.wrap (a+b))))
 | .sub=>some (True,.lit (.int k (k.wrap (a-b))))
 | .mul=>some (True,.lit (.int k (k.wrap (a*b))))
 | .quo=>some (b≠0,.lit (.int k (k.wrap (a.tdiv b))))
 | .rem=>some (b≠0,.lit (.int k (a.tmod b)))
 | .lss=>some (True,.lit (.bool (decide (a<b))))
 | .leq=>some (True,.lit (.bool (decide (a≤b))))
 | .gtr=>some (True,.lit (.bool (decide (b<a))))
 | .geq=>some (True,.lit (.bool (decide (b≤a))))
 | _=>none
def zG3:List A→Option (List Int)
 | []=>some []
 | .lit (.int .i64 n)::l=>(zG3 l).map (n::·)
 | _=>none
def zG4:List A→Option (List Int)
 | []=>some []
 | .lit (.int .u8 n)::l=>(zG4 l).map (n::·)
 | _=>none
def zH2 (nk:Nat):A→Option (List Int)
 | .agg cs=>match zG3 cs with
  | some ks=>if ks.length=nk then some ks else none
  | none=>none
 | _=>none
def zKo (ks:List Int):A:=.agg (ks.map fun n=>.lit (.int .i64 n))
def zA1 (ks:List Int):List (List Int×A)→Option A
 | []=>none
 | p::es=>if p.1=ks then some p.2 else zA1 ks es
def zDm (ks:List Int)(v:A):List (List Int×A)→List (List Int×A)
 | []=>[(ks,v)]
 | p::es=>if p.1=ks then (ks,v)::es else p::zDm ks v es
def zIe (ks:List Int):List (List Int×A)→List (List Int×A)
 | []=>[]
 | p::es=>if p.1=ks then es else p::zIe ks es
def zF1 (z:Value)(ok:Bool)(r:Option A):A:=if ok then .tup [r.getD (zGl z),.lit (.bool r.isSome)] else r.getD (zGl z)
def zBc (m:MOp)(xs:List A)(K:A→St→Prop) (σ : St):Prop:=match m,xs with
 | .mk nk,[]=>K (.map σ.length) (σ++[.mp true nk []])
 | .get nk z ok,[.map l,k]=>(match zH2 nk k,σ[l]? with
  | some ks,some (.mp _ nk' es)=>nk'=nk∧K (zF1 z ok (zA1 ks es)) σ
  | _,_=>False)
 | .set nk,[.map l,k,v]=>(match zH2 nk k,σ[l]? with
  | some ks,some (.mp fr nk' es)=>nk'=nk∧K (.lit undef) (σ.set l (.mp fr nk (zDm ks v es)))
  | _,_=>False)
 | .del nk,[.map l,k]=>(match zH2 nk k,σ[l]? with
  | some ks,some (.mp _ nk' es)=>nk'=nk∧K (.tup []) (σ.set l (.mp false nk (zIe ks es)))
  | _,_=>False)
 | .rng,[.map l]=>(match σ[l]? with
  | some (.mp true _ es)=>K (.ptr σ.length 0) (σ++[.it l es.length []])
  | _=>False)
 | .nxt,[.ptr j 0]=>(match σ[j]? with
  | some (.it l n met)=>(match σ[l]? with
   | some (.mp true _ es)=>n=es.length∧(∀(i:Nat) (p:List Int×A),i∉met→es[i]?=some p→K (.tup [.lit (.bool true),zKo p.1,p.2]) (σ.set j (.it l n (met++[i])))) ∧
    ((∀i,i<n→i∈met)→K (.tup [.lit (.bool false)]) σ)
   | _=>False)
  | _=>False)
 | .clr sz zs,[.win l n o k c]=>(match σ[l]? with
  | some (.row fz e s m cs)=>(n=m∧s=sz∧fz=false∧o+k*sz≤cs.length)∧K (.tup []) (σ.set l (.row false e sz n (cs.take o++(List.replicate k (zs.map jC)).flatten++cs.drop (o+k*sz))))
  | _=>False)
 | .mks e sz bytes zs,[.lit (.int _ n),.lit (.int _ c)]=>(0≤n∧c=n∧n≤1000000000000∧bytes*n.toNat≤281474976710656)∧K (.row σ.length n.toNat) (σ++[.row false e sz n.toNat ((List.replicate n.toNat (zs.map jC)).flatten)])
 | .cvt k,[.lit (.int _ n)]=>K (.lit (.int k (k.wrap n))) σ
 | .str,[.sl n cs]=>(match zG4 cs with
  | some xs=>(xs.length=n∧n≠0)∧K (.lit (.string (strOfNums xs))) σ
  | none=>False)
 | .str,[.fsl n cs]=>(match zG4 cs with
  | some xs=>(xs.length=n∧n≠0)∧K (.lit (.string (strOfNums xs))) σ
  | none=>False)
 | .ent,[.ptr j 0]=>(match σ[j]? with
  | some (.it l n met)=>(match σ[l]?,met.getLast? with
   | some (.mp true _ es),some i=>n=es.length∧(match es[i]? with
    | some p=>K (.tup [zKo p.1,p.2]) σ
    | none=>False)
   | _,_=>False)
  | _=>False)
 | _,_=>False
def zOq (m:MOp)(xs:List A) (σ : St):Option (A×St):=match m,xs with
 | .mk nk,[]=>some (.map σ.length,σ++[.mp true nk []])
 | .get nk z ok,[.map l,k]=>(match zH2 nk k,σ[l]? with
  | some ks,some (.mp _ nk' es)=>if nk'=nk then some (zF1 z ok (zA1 ks es),σ) else none
  | _,_=>none)
 | .set nk,[.map l,k,v]=>(match zH2 nk k,σ[l]? with
  | some ks,some (.mp fr nk' es)=>if nk'=nk then some (.lit undef,σ.set l (.mp fr nk (zDm ks v es))) else none
  | _,_=>none)
 | .del nk,[.map l,k]=>(match zH2 nk k,σ[l]? with
  | some ks,some (.mp _ nk' es)=>if nk'=nk then some (.tup [],σ.set l (.mp false nk (zIe ks es))) else none
  | _,_=>none)
 | .clr sz zs,[.win l n o k _]=>(match σ[l]? with
  | some (.row fz e s m cs)=>if n=m∧s=sz∧fz=false∧o+k*sz≤cs.length then some (.tup [],σ.set l (.row false e sz n (cs.take o++(List.replicate k (zs.map jC)).flatten++cs.drop (o+k*sz)))) else none
  | _=>none)
 | .mks e sz bytes zs,[.lit (.int _ n),.lit (.int _ c)]=>if 0≤n∧c=n∧n≤1000000000000∧bytes*n.toNat≤281474976710656 then some (.row σ.length n.toNat,σ++[.row false e sz n.toNat ((List.replicate n.toNat (zs.map jC)).flatten)]) else none
 | .cvt k,[.lit (.int _ n)]=>some (.lit (.int k (k.wrap n)),σ)
 | .str,[.sl n cs]=>(match zG4 cs with
  | some xs=>if xs.length=n∧n≠0 then some (.lit (.string (strOfNums xs)),σ) else none
  | none=>none)
 | .str,[.fsl n cs]=>(match zG4 cs with
  | some xs=>if xs.length=n∧n≠0 then some (.lit (.string (strOfNums xs)),σ) else none
  | none=>none)
 | _,_=>none
noncomputable section
open Classical
def zAJ (neg:Bool)(p:Prop):A:=.lit (.bool (if neg then decide (¬p) else decide p))
def zF7 (max:Bool):Int→List A→IntKind→Option A
 | m,[],k=>some (.lit (.int k m))
 | m,.lit (.int k' b)::rest,k=>if k'=k then zF7 max (if max then (if b > m then b else m) else (if b<m then b else m)) rest k else none
 | _,_,_=>none
def qO (env:Env)(dflt:Nat):Option Operand→Option Int
 | none=>some dflt
 | some x=>match ev env x with
  | .lit (.int _ j)=>some j
  | _=>none
def zWf (op:BinOp)(a b:ByteArray):Option (Prop×A):=match op with
 | .add=>some (a.size+b.size≤1000000,.lit (.string (a++b)))
 | _=>none
def zO (env:Env) (σ : St):KOp→Option (Prop×A)
 | .mov _ x=>some (True,ev env x)
 | .pick _ c a b=>match ev env c with
  | .lit (.bool t)=>some (True,if t then ev env a else ev env b)
  | _=>none
 | .ld _ x n agg=>((ldA σ n (ev env x)).bind (zBq agg)).map fun r=>(True,r)
 | .addr _ x off=>match ev env x with
  | .ptr l o=>some (True,.ptr l (o+off))
  | .rptr cs=>some (True,.rptr (cs.drop off))
  | .rwp l n o=>match σ[l]? with
   | some (.row _ _ _ m _)=>if n=m then some (True,.rwp l n (o+off)) else none
   | _=>none
  | _=>none
 | .idx _ x i sz=>match ev env x,ev env i with
  | .sl n cs,.lit (.int _ j)=>some ((0≤j∧j<n)∧j.toNat*sz<cs.length,.rptr (cs.drop (j.toNat*sz)))
  | .fsl n cs,.lit (.int _ j)=>some ((0≤j∧j<n)∧j.toNat*sz<cs.length,.rptr (cs.drop (j.toNat*sz)))
  | .row l n,.lit (.int _ j)=>match σ[l]? with
   | some (.row _ _ s m _)=>if n=m∧s=sz then some (0≤j∧j<n,.rwp l n (j.toNat*sz)) else none
   | _=>none
  | .win l n o k _,.lit (.int _ j)=>match σ[l]? with
   | some (.row _ _ s m _)=>if n=m∧s=sz then some (0≤j∧j<k,.rwp l n (o+j.toNat*sz)) else none
   | _=>none
  | _,_=>none
 | .idxarr _ x i len sz=>match ev env x,ev env i with
  | .ptr l o,.lit (.int _ j)=>some (0≤j∧j<len,.ptr l (o+j.toNat*sz))
  | .rptr cs,.lit (.int _ j)=>some ((0≤j∧j<len)∧j.toNat*sz<cs.length,.rptr (cs.drop (j.toNat*sz)))
  | _,_=>none
 | .fld _ x off n agg=>match ev env x with
  | .agg cs=>((sub cs off n).bind (zBq agg)).map fun r=>(True,r)
  | _=>none
 | .ix _ x i len sz agg=>match ev env x,ev env i with
  | .agg cs,.lit (.int _ j)=>((sub cs (j.toNat*sz) sz).bind (zBq agg)).map fun r=>(0≤j∧j<len,r)
  | _,_=>none
 | .bin _ op x y=>match ev env x,ev env y with
  | .lit (.int k a),.lit (.int k' b)=>if k=k' then zDK op k a b else none
  | .lit (.string a),.lit (.string b)=>zWf op a b
  | _,_=>none
 | .eqv _ neg k x y=>(zB6 k (ev env x) (ev env y)).map fun p=>(True,zAJ neg p)
 | .eqs _ neg ks x y=>match ev env x,ev env y with
  | .agg xs,.agg ys=>(yT ks xs ys).map fun p=>(True,zAJ neg p)
  | _,_=>none
 | .isn _ neg x=>match ev env x with
  | .nil=>some (True,.lit (.bool !neg))
  | .sl n _=>some (n≠0,.lit (.bool neg))
  | .fsl n _=>some (n≠0,.lit (.bool neg))
  | _=>none
 | .neg _ x=>match ev env x with
  | .lit (.int k a)=>some (True,.lit (.int k (k.wrap (0-a))))
  | _=>none
 | .not _ x=>match ev env x with
  | .lit (.bool b)=>some (True,.lit (.bool !b))
  | _=>none
 | .mm _ max xs=>match xs.map (ev env)with
  | .lit (.int k a)::rest=>(zF7 max a rest k).map fun r=>(True,r)
  | _=>none
 | .ext _ x i=>match ev env x with
  | .tup vs=>(vs[i]?).map fun r=>(True,r)
  | _=>none
 | .clo _ f first cap=>some (True,.clo f (first.map (ev env)) (cap.map (ev env)))
 | .isp _ neg x=>match ev env x with
  | .lit (.pointer none)=>some (True,.lit (.bool !neg))
  | .rptr _=>some (True,.lit (.bool neg))
  | .ptr _ _=>some (True,.lit (.bool neg))
  | _=>none
 | .mki _ t x=>some (True,match ev env x with
  | .lit v=>.lit (.iface t v)
  | _=>.any)
 | .nilc _ x=>match ev env x with
  | .ptr l o=>some (True,.ptr l o)
  | .rptr cs=>some (True,.rptr cs)
  | _=>none
 | .build _ zero parts=>(zAV (zero.map jC) (parts.map fun(o,s,x)=>(o,s,ev env x))).map fun cs=>(True,.agg cs)
 | .len _ false x=>match ev env x with
  | .nil=>some (True,.lit (.int .i64 0))
  | .sl n _=>some (True,.lit (.int .i64 n))
  | .fsl n _=>some (True,.lit (.int .i64 n))
  | .row l n=>match σ[l]? with
   | some (.row _ _ _ m _)=>if n=m then some (True,.lit (.int .i64 n)) else none
   | _=>none
  | .win l n _ k _=>match σ[l]? with
   | some (.row _ _ _ m _)=>if n=m then some (True,.lit (.int .i64 k)) else none
   | _=>none
  | _=>none
 | .len _ true x=>match ev env x with
  | .lit (.string s)=>some (True,.lit (.int .i64 s.size))
  | _=>none
 | .rslc _ x sz lo hi=>match ev env x with
  | .row l n=>match σ[l]? with
   | some (.row _ _ s m _)=>if n=m∧s=sz then (match qO env 0 lo,qO env n hi with
    | some l',some h=>some (0≤l'∧l'≤h∧h≤n,.win l n (l'.toNat*sz) (h-l').toNat ((h-l').toNat*sz))
    | _,_=>none) else none
   | _=>none
  | .win l n o k _=>match σ[l]? with
   | some (.row _ _ s m _)=>if n=m∧s=sz then (match qO env 0 lo,qO env k hi with
    | some l',some h=>some (0≤l'∧l'≤h∧h≤k,.win l n (o+l'.toNat*sz) (h-l').toNat ((h-l').toNat*sz))
    | _,_=>none) else none
   | _=>none
  | _=>none
 | .slc _ x sz lo hi none=>match ev env x with
  | .sl n cs=>match qO env 0 lo,qO env n hi with
   | some l,some h=>some (0≤l∧l≤h∧h≤n,.sl (h-l).toNat ((cs.drop (l.toNat*sz)).take ((h-l).toNat*sz)))
   | _,_=>none
  | .fsl n cs=>match qO env 0 lo,qO env n hi with
   | some l,some h=>some (0≤l∧l≤h∧h≤n,.sl (h-l).toNat ((cs.drop (l.toNat*sz)).take ((h-l).toNat*sz)))
   | _,_=>none
  | .nil=>match qO env 0 lo,qO env 0 hi with
   | some l,some h=>some (l=0∧h=0,.nil)
   | _,_=>none
  | _=>none
 | .slc _ x sz lo (some hi) (some mx)=>match ev env x with
  | .sl n cs=>match qO env 0 lo,qO env n (some hi),qO env n (some mx)with
   | some l,some h,some m=>some ((0≤l∧l≤h∧h≤n)∧m=h,.fsl (h-l).toNat ((cs.drop (l.toNat*sz)).take ((h-l).toNat*sz)))
   | _,_,_=>none
  | .fsl n cs=>match qO env 0 lo,qO env n (some hi),qO env n (some mx)with
   | some l,some h,some m=>some ((0≤l∧l≤h∧h≤n)∧m=h,.fsl (h-l).toNat ((cs.drop (l.toNat*sz)).take ((h-l).toNat*sz)))
   | _,_,_=>none
  | .nil=>match qO env 0 lo,qO env 0 (some hi),qO env 0 (some mx)with
   | some l,some h,some m=>some ((l=0∧h=0)∧m=0,.nil)
   | _,_,_=>none
  | _=>none
 | _=>none
end
end Go.Abs
