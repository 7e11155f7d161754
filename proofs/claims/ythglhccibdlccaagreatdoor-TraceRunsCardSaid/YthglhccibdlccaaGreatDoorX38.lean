/-
  The maker's programs, walked: the nodes get their IDs.
  The maker's programs, walked: the bodies are made.
  The maker's programs, walked: modules, definitions, slots.
-/
import Derived.Test.YthglhccibdlccaaGreatDoorX37
set_option linter.unusedVariables false
set_option linter.unusedSimpArgs false
namespace Go.Proofs.YthglhccibdlccaaGreatDoor
open Go.Abs
def zZb:K:=(G [D 137 4 1,L 138 137 1,J 139 10 31,kd 140 39 31 1 kz0 [(0,31,(kt 139))],kP 141 39 31 352 138 140,D 142 4 1,S 142 141 1] (K.dops [(0,1,D 143 4 0),(1,1,L 144 143 1),(2,0,M 145 7),(3,0,M 146 9),(4,1,kX 147 145 146 11),(5,1,D 148 147 10),(6,1,L 149 148 1),(7,0,D 150 4 0),(8,0,L 151 150 1),(9,0,M 152 7),(10,0,M 153 9),(11,0,kX 154 152 153 11),(12,0,D 155 154 10),(13,0,L 156 155 1),(14,0,kX 157 151 156 6),(15,0,D 158 157 5),(16,0,L 159 158 1),(17,0,D 160 10 0),(18,0,J 161 160 3),(19,0,kd 162 29 3 1 [ki,ki,ki] [(0,3,(kt 161))]),(20,0,kP 163 29 3 24 159 162),(21,0,kX 164 144 149 6),(22,0,D 165 164 5),(23,0,S 165 163 1)]))
def zZa:K:=(G [M 213 13,M 214 14,kU 215 213,D 216 215 6,S 216 214 1] (G [M 217 13,D 218 15 4,J 219 218 3,kU 220 217,D 221 220 7,S 221 219 3] (G [M 222 13,kU 223 222,D 224 223 5,⟨none,.st none (kt 224) (kc 14) 1⟩] (G [M 225 13,kU 226 225,D 227 226 10,⟨none,.st none (kt 227) (kc 0) 1⟩] (Z (K.dops [(0,2,D 228 4 1),(1,4002,L 229 228 1),(2,0,M 230 14),(3,0,M 231 13),(4,0,D 232 15 9),(5,0,J 233 232 5),(6,0,M 234 16),(7,3002,kC 235 34 [(kt 231),(kt 233),(kt 234),(kc 4)]),(8,4002,kX 236 229 230 31),(9,4002,D 237 236 14),(10,0,S 237 235 15)]) (G [D 238 4 1,L 239 238 1,M 240 14,kX 241 239 240 31,D 242 241 14,J 243 242 15,kC 244 35 [(kt 243)],kBi 245 244 30 .gtr] (Y 245 (G [M 246 13,kU 247 246,D 248 247 5,⟨none,.st none (kt 248) (kc 0) 1⟩] (K.dops [(0,2,D 249 4 1),(1,4002,L 250 249 1),(2,0,M 251 14),(3,0,M 252 13),(4,0,D 253 15 9),(5,0,J 254 253 5),(6,0,M 255 16),(7,3002,kC 256 34 [(kt 252),(kt 254),(kt 255),(kc 0)]),(8,4002,kX 257 250 251 31),(9,4002,D 258 257 14),(10,0,S 258 256 15)])) ks)))))))
def zQG:K:=(G [M 259 13,kU 260 259,D 261 260 4,L 262 261 1,⟨none,.mop (some 263) (.mks 29 3 24 [ki,ki,ki]) [(kt 262),(kt 262)]⟩,M 18 263] (Z (G [kMi 19 0] (K.block 10 (K.loop (Z (G [M 264 19,D 265 4 1,L 266 265 1,kN 267 266,kB 268 264 267 .lss] (Y 268 ks (K.exit 10))) (Z (K.block 11 (Z (G [D 271 4 1,L 272 271 1,M 273 19,kX 274 272 273 31,D 275 274 3,L 276 275 1,kQi 277 276 0 false,M 278 277,T 278 false (D 279 4 1),T 278 false (L 280 279 1),T 278 false (M 281 19),T 278 false (kX 282 280 281 31),T 278 false (D 283 282 3),T 278 false (L 284 283 1),T 278 false (kQi 285 284 1 false),kPt 286 278 285] (Y 286 (K.exit 11) ks)) (G [D 287 4 1,L 288 287 1,M 289 19,kX 290 288 289 31,D 291 290 14,J 292 291 15,kC 293 36 [(kt 292),(.const kl)],M 20 293] (Z (G [kMi 21 0] (K.block 12 (K.loop (Z (G [M 294 21,M 295 20,kN 296 295,kB 297 294 296 .lss] (Y 297 ks (K.exit 12))) (Z (K.block 13 (Z (K.dops [(0,0,M 300 18),(1,0,M 301 20),(2,0,M 302 21),(3,0,kX 303 301 302 1),(4,0,L 304 303 1),(5,0,M 305 8),(6,0,kC 306 32 [(kt 305)]),(7,0,kX 307 300 304 3),(8,0,S 307 306 3)]) (K.ops [M 308 8,kBi 309 308 1 .add,M 8 309]))) (K.ops [M 298 21,kBi 299 298 1 .add,M 21 299])))))) (K.dops [(0,0,D 310 4 1),(1,0,L 311 310 1),(2,0,M 312 19),(3,0,D 313 4 1),(4,0,L 314 313 1),(5,0,M 315 19),(6,0,kX 316 314 315 31),(7,0,D 317 316 14),(8,0,J 318 317 15),(9,0,M 319 18),(10,0,kC 320 37 [(kt 318),(kt 319)]),(11,0,kX 321 311 312 31),(12,0,D 322 321 14),(13,0,S 322 320 15)]))))) (K.ops [M 269 19,kBi 270 269 1 .add,
 M 19 270])))))) (G [J 323 4 2,S 2 323 2] kr)))
def zQF:K:=(G [J 166 4 2,M 167 0,kb 168 [kl,kl,kl,ki,ki,ki,ki,ki,ki,ki,ki] [(0,2,(kt 166)),(2,1,(kt 167)),(3,1,(kc 24))],kO 169 168,M 13 169] (Z (G [kMi 14 0] (K.block 6 (K.loop (Z (G [M 170 14,D 171 4 1,L 172 171 1,kN 173 172,kB 174 170 173 .lss] (Y 174 ks (K.exit 6))) (Z (K.block 7 (G [D 177 4 1,L 178 177 1,M 179 14,kX 180 178 179 31,J 181 180 31,kZ 15 kz0,S 15 181 31] (Z (G [D 182 15 3,L 183 182 1,kQi 184 183 0 false,M 185 184,T 185 false (D 186 15 3),T 185 false (L 187 186 1),T 185 false (kQi 188 187 1 false),kPt 189 185 188] (Y 189 (K.exit 7) ks)) (G [kMn 16] (Z (G [kMi 17 0] (K.block 8 (K.loop (Z (G [M 190 17,D 191 15 8,L 192 191 1,kN 193 192,kB 194 190 193 .lss] (Y 194 ks (K.exit 8))) (Z (K.block 9 (K.dops [(0,0,M 197 16),(1,0,D 198 15 8),(2,0,L 199 198 1),(3,0,M 200 17),(4,0,kX 201 199 200 11),(5,0,D 202 201 0),(6,0,J 203 202 3),(7,0,D 204 15 8),(8,0,L 205 204 1),(9,0,M 206 17),(10,0,kX 207 205 206 11),(11,0,D 208 207 4),(12,0,J 209 208 5),(13,0,kb 210 kz7 [(0,3,(kt 203)),(4,5,(kt 209))]),(14,0,kd 211 96 9 1 kz7 [(0,9,(kt 210))]),(15,0,kP 212 96 9 88 197 211),(16,0,M 16 212)])) (K.ops [M 195 17,kBi 196 195 1 .add,M 17 196])))))) (K.wk zZa)))))) (K.ops [M 175 14,kBi 176 175 1 .add,M 14 176])))))) (K.wk zQG)))
def zT0:K:=(G [M 48 0,M 49 3,kC 50 33 [(kt 48),(kt 49)],M 7 50] (G [M 51 3,M 52 7,kN 53 52,kB 54 51 53 .add,M 8 54] (Z (G [kMi 9 0] (K.block 2 (K.loop (Z (G [M 55 9,M 56 7,kN 57 56,kB 58 55 57 .lss] (Y 58 ks (K.exit 2))) (Z (K.block 3 (Z (K.dops [(0,0,M 61 3),(1,0,M 62 9),(2,0,kB 63 61 62 .add),(3,1,kC 64 32 [(kt 63)]),(4,0,M 65 7),(5,0,M 66 9),(6,1,kX 67 65 66 11),(7,1,D 68 67 0),(8,1,L 69 68 1),(9,0,M 70 7),(10,0,M 71 9),(11,1,kX 72 70 71 11),(12,1,D 73 72 10),(13,1,L 74 73 1),(14,1,kC 75 32 [(kt 74)]),(15,0,M 76 7),(16,0,M 77 9),(17,1,kX 78 76 77 11),(18,1,D 79 78 1),(19,1,L 80 79 1),(20,0,M 81 7),(21,0,M 82 9),(22,1,kX 83 81 82 11),(23,1,D 84 83 5),(24,1,J 85 84 5),(25,0,kb 86 kz0 [(0,3,(kt 64)),(3,1,(kt 69)),(4,3,(kt 75)),(7,1,(kt 80)),(9,5,(kt 85))]),(26,0,kZ 10 kz0),(27,0,S 10 86 31)]) (Z (G [kMi 11 0] (K.block 4 (K.loop (Z (G [M 87 11,M 88 7,M 89 9,kX 90 88 89 11,D 91 90 2,L 92 91 1,kN 93 92,kB 94 87 93 .lss] (Y 94 ks (K.exit 4))) (Z (K.block 5 (Z (K.dops [(0,0,M 97 8),(1,1,kC 98 32 [(kt 97)]),(2,0,M 99 7),(3,0,M 100 9),(4,1,kX 101 99 100 11),(5,1,D 102 101 3),(6,1,L 103 102 1),(7,0,M 104 11),(8,1,kX 105 103 104 1),(9,1,L 106 105 1),(10,0,M 107 7),(11,0,M 108 9),(12,1,kX 109 107 108 11),(13,1,D 110 109 2),(14,1,L 111 110 1),(15,0,M 112 11),(16,1,kX 113 111 112 5),(17,1,J 114 113 5),(18,0,M 115 11),(19,0,kb 116 kz5 [(0,3,(kt 98)),(3,1,(kt 106)),(4,5,(kt 114)),(10,1,(kt 115))]),(20,0,kZ 12 kz5),(21,0,S 12 116 11)]) (Z (G [D 117 10 3,
 L 118 117 1,kQi 119 118 4 false] (Y 119 (K.ops [M 120 7,M 121 9,kX 122 120 121 11,D 123 122 4,L 124 123 1,M 125 11,kX 126 124 125 1,L 127 126 1,D 128 12 9,S 128 127 1]) ks)) (G [D 129 10 8,L 130 129 1,J 131 12 11,kd 132 90 11 1 kz5 [(0,11,(kt 131))],kP 133 90 11 112 130 132,D 134 10 8,S 134 133 1] (K.ops [M 135 8,kBi 136 135 1 .add,M 8 136]))))) (K.ops [M 95 11,kBi 96 95 1 .add,M 11 96])))))) (K.wk zZb)))) (K.ops [M 59 9,kBi 60 59 1 .add,M 9 60])))))) (K.wk zQF))))
def qF1:K:=G [kZ 2 [kl,kl]] (G [M 22 0,kC 23 31 [(kt 22),(kc 0),(kc 2)],⟨none,.bin (some 24) .add (kc 1) (kt 23)⟩,M 3 24] (G [kZ 4 [kl,kl]] (Z (G [kMi 5 0] (K.block 0 (K.loop (Z (G [M 25 5,M 26 3,kB 27 25 26 .lss] (Y 27 ks (K.exit 0))) (Z (K.block 1 (Z (K.dops [(0,0,M 30 5),(1,1,kC 31 32 [(kt 30)]),(2,0,⟨none,.bslice (some 32) 9 1 2 [(.string ⟨#[]⟩),(.string ⟨#[]⟩)] [(0,1,(.const (.string ⟨#[99,111,114,101]⟩))),(1,1,(.const (.string ⟨#[109,105,108,108]⟩)))]⟩),(3,0,M 33 5),(4,1,kX 34 32 33 1),(5,1,L 35 34 1),(6,0,kb 36 kz9 [(0,3,(kt 31)),(3,1,(kt 35))]),(7,0,kZ 6 kz9),(8,0,S 6 36 6)]) (Z (G [M 37 5,kQi 38 37 1 false] (Y 38 (K.ops [kC 39 32 [(kc 0)],kd 40 29 3 1 [ki,ki,ki] [(0,3,(kt 39))],D 41 6 4,S 41 40 1]) ks)) (K.ops [D 42 4 0,L 43 42 1,J 44 6 6,kd 45 84 6 1 kz9 [(0,6,(kt 44))],kP 46 84 6 88 43 45,D 47 4 0,S 47 46 1])))) (K.ops [M 28 5,kBi 29 28 1 .add,M 5 29])))))) (K.wk zT0))))
def qO4:Nat→Option (List (Nat×Nat)):=fun r=>match r with | 41=>some [(0,2),(1,4002),(2,0),(3,0),(4,0),(5,0),(6,0),(7,3002),(8,4002),(9,4002),(10,0)] | 44=>some [(0,2),(1,4002),(2,0),(3,0),(4,0),(5,0),(6,0),(7,3002),(8,4002),(9,4002),(10,0)] | 56=>some [(0,0),(1,0),(2,0),(3,0),(4,0),(5,0),(6,0),(7,0),(8,0),(9,0),(10,0),(11,0),(12,0),(13,0)] | _=>none
theorem qMl:qC Tryz.prog Tryz.f9.ntmps qO4 (Tryz.f9.body.getD .skip)=some qF1.erase:=by kernel_rfl
@[simp] theorem qNp:zA Tryz.prog 9=true:=by kernel_rfl
abbrev zUY (p:Prg):=fin [RS.cell 2 2 true] (zHa 0 (.agg (zU p)) [])
set_option maxHeartbeats 4000000 in
set_option maxRecDepth 100000 in
theorem qIM (m:Mk)(M:List Md)(next:Int)(N:Nat)(hN:m.temp=N)(hN1:N≤10000000000)(h0:0≤next)(h1:next≤1000000)(hd8:m.defs.length≤100)
 (hb:∀d∈m.defs,zBL d=true→d.body.under N∧(∀c∈tmps d.body,0≤c∧c<N)∧(tmps d.body).length≤1000000) :
 wpK Tryz.prog 0 zQG (zUY ⟨M,(zBj ⟨m.defs,zCD N,next⟩ m.defs.length).ds⟩) (qT [(2,.ptr 2 0),(4,.ptr 3 0),(8,int next),(13,.ptr 0 0)])
  (mkS m++[.box [.nil,.nil],.box [.sl M.length (qM M),.row 1 m.defs.length]]):=by
 generalize hs:(⟨m.defs,zCD N,next⟩:NSt)=s;have hsd:s.ds=m.defs:=by rw[←hs]
 have hsi:s.ids.length=N:=by rw[←hs]; simp[zCD]
 have hsn:s.next=next:=by rw[←hs]
 have hz:=zEz N;have hz2:s.ids=zCD N:=by rw[←hs]
 have hnx:∀i≤m.defs.length,0≤(zBj s i).next∧(zBj s i).next≤1000000+1000000*i:=by
  intro i;induction i with
  | zero=>intro _; simp only[zBj,hsn]; omega
  | succ i ih =>
   intro hi;have ih:=ih (by omega);have hd:s.ds[i]?=some (m.defs[i]'(by omega)):=by rw[hsd,List.getElem?_eq_getElem (by omega)]
   rw[zIx s hd];split
   ·rename_i hbd;have:=(hb _ (List.getElem_mem (by omega)) hbd).2.2;simp only;omega
   ·omega
 have h24:24*N≤281474976710656:=by omega
 unfold zQG;simp[mkS,mkB,hN,h24];refine⟨by omega,?_⟩;refine qZ (S:=Nat) (fun i=>[(2,.ptr 0 0),(4,.ptr 1 0),(8,int (zBj s i).next),(18,.row 3 N),(19,int i)])
  (fun i=>[.box [.nil,.nil],.box [.sl M.length (qM M),.row 2 m.defs.length],.row false 39 31 m.defs.length (zZ (zBj s i).ds),.row false 29 3 N (qF (zBj s i).ids)]) (fun i=>i≤m.defs.length) (fun i=>m.defs.length-i) 0 (by simp)
  (zS [2,3,1,4] 0 (by decide) (by simp) (by simp[zBj,hsd,hz2,←hz]) (by simp[zBj,hsn])) ?_
 intro i hi;by_cases h:i<m.defs.length
 ·have hd:s.ds[i]?=some m.defs[i]:=by rw[hsd,List.getElem?_eq_getElem (by omega)]
  have hst:=zIx s hd;have hcur:(zBj s i).ds[i]?=some m.defs[i]:=by rw[zEL s i i (Nat.le_refl _)]; exact hd
  obtain⟨hlt,hce⟩:=List.getElem?_eq_some_iff.1 hcur;obtain⟨hl1,hl2⟩:=zF8 s i;have hbd:=hb _ (List.getElem_mem h);obtain⟨nx0,nx1⟩:=hnx i hi;have hw:=zHY hlt (zCh (zDZ (zCX (zBj s i).ids (zBj s i).next (tmps m.defs[i].body))) m.defs[i].body);have hdr:=yB hlt;rw[hce]at hw hdr;have hi8:(i:Int)≤100:=by omega
  have wi:IntKind.i64.wrap ((i:Int)+1)=i+1:=IntWalk.i64_in _ (by omega);rw[hsd]at hl1;rw[hsi]at hl2;generalize hse:zBj s (i+1)=s' at hst;generalize hte:zBj s i=t at *
  generalize m.defs[i]=d at *
  have hb3:i*31+3+1≤m.defs.length*31:=by omega
  have hb14:i*31+14+15≤m.defs.length*31:=by omega
  have hdr3:List.drop (i*31+3) (zZ t.ds)=(zP d++zZ (t.ds.drop (i+1))).drop 3:=by rw[←List.drop_drop,hdr]
  have hdr14:List.drop (i*31+14) (zZ t.ds)=(zP d++zZ (t.ds.drop (i+1))).drop 14:=by rw[←List.drop_drop,hdr]
  have henc:zP d=(zP d).take 14++zF d.body++[.lit (.int .i64 d.place),.sl d.lay.length (jY d.lay)]:=rfl;by_cases hk0:d.kind=0
  ·have hbf:zBL d=false:=by simp[zBL,hk0]
   rw[hbf]at hst;simp only[Bool.false_eq_true,if_false]at hst;subst hst;simp[h,hdr3,hb3,hl1,zP,hk0];exact zT (i+1) h (by omega) (zS [0,1,2,3] 0 (by decide) (by simp) (by simp[hse]) (by simp[wi,hse]))
  ·by_cases hk1:d.kind=1
   ·have hbf:zBL d=false:=by simp[zBL,hk1]
    rw[hbf]at hst;simp only[Bool.false_eq_true,if_false]at hst;subst hst;simp[h,hdr3,hb3,hl1,zP,hk1];exact zT (i+1) h (by omega) (zS [0,1,2,3] 0 (by decide) (by simp) (by simp[hse]) (by simp[wi,hse]))
   ·have hbf:zBL d=true:=by simp[zBL,hk0,hk1]
    rw[hbf]at hst;simp only[if_true]at hst;obtain⟨bu,bc,bl⟩:=hbd hbf;have hnum:=zQb d.body (by omega);simp[h,hdr3,hb3,hl1,zP,hk0,hk1,hdr14,hb14];refine zN hnum [] (by simp) (by simp) (by simp[zF]) ?_;generalize hO:tmps d.body=O at *
    simp[zCA];refine qZ (S:=Nat) (fun k=>[(2,.ptr 0 0),(4,.ptr 1 0),(8,int (t.next+k)),(18,.row 3 N),(19,int i),(20,.row 4 O.length),(21,int k)])
     (fun k=>[.box [.nil,.nil],.box [.sl M.length (qM M),.row 2 m.defs.length],.row false 39 31 m.defs.length (zZ t.ds),.row false 29 3 N (qF (zCX t.ids t.next (O.take k))),zCA O]) (fun k=>k≤O.length) (fun k=>O.length-k) 0 (by simp)
     (zS [0,1,2,3,4] 0 (by decide) (by simp) (by simp[zCA,zCX]) (by simp)) ?_
    intro k hk;by_cases hkl:k<O.length
    ·obtain⟨hc0,hc1⟩:=bc O[k] (List.getElem_mem hkl);obtain⟨c,hc⟩:∃c:Nat,O[k]=c:=⟨O[k].toNat,by omega⟩;have hod:=zGd hkl;rw[hc]at hod hc1;have hcN:c<N:=by omega
     have hst2:=zSR hkl t.ids t.next;rw[hc]at hst2;have hsl:(zCX t.ids t.next (O.take k)).length=N:=by rw[zHI]; exact hl2
     have hset:=zGA (R:=zCX t.ids t.next (O.take k)) (k:=c) (idR (t.next+k)) (by omega);have wk1:IntKind.i64.wrap ((k:Int)+1)=k+1:=IntWalk.i64_in _ (by omega);have wk2:IntKind.i64.wrap (t.next+(k:Int)+1)=t.next+k+1:=IntWalk.i64_in _ (by omega);have hb3c:c*3+3≤N*3:=by omega
     have hkl':k+1≤O.length:=hkl;simp[zCA,hkl,hkl',hod];refine qE (zFc (t.next+k)) (by simp) (by simp) ?_;simp[qX,hcN,hsl,hb3c];exact zT (k+1) hkl (by omega) (zS [0,1,2,3,4] 0 (by decide) (by simp) (by simp[zCA,hst2,←hset,qX]) (by simp[wk1,wk2]; omega))
    ·have hke:k=O.length:=by omega
     subst hke;have hren:=zKH (zCX t.ids t.next O) d.body (by rw[zHI,hl2]; exact bu);have hsl:(zCX t.ids t.next O).length=N:=by rw[zHI]; exact hl2
     unfold zAa at hren;rw[hsl]at hren;rw[List.take_length];simp[zCA,h,hl1,hdr14,hb14,zP];refine qBx hren [3] (by simp) (by simp) (by simp[zF]) (by simp) (by simp) ?_;simp[h,hl1,hb14];exact zT (i+1) h (by omega) (zS [0,1,2,3] 0 (by decide) (by simp) (by simp[hse,hst,←hw]) (by simp[wi,hse,hst]))
 ·have hie:i=m.defs.length:=by omega
  subst hie;obtain⟨hl1,hl2⟩:=zF8 s m.defs.length;rw[hsd]at hl1;simp;exact zC 1 (by simp[zU,hl1])
end Go.Proofs.YthglhccibdlccaaGreatDoor
namespace Go.Abs
section
variable {d:Option Nat}{x i:Operand}{n f:Nat}{g:Bool}{env:Env}{l:List Operand}
@[simp] theorem qEp (h1:4000≤f):zAP f (.ld d x n g) env=zBG (f-4000) (ev env x):=propext (zOV h1)
@[simp] theorem qCG (h1:4000≤f):zAP f (.idx d x i n) env=isRow (ev env x):=propext (zMw h1)
@[simp] theorem qEo {o:Nat}(h1:6<f):zAP f (.addr d x o) env=True:=by
 unfold zAP;split
 ·omega
 ·omega
 ·split
  ·rfl
  ·split
   ·rfl
   ·split<;>rfl
@[simp] theorem qCF (h1:6<f):zAP f (.call d x l) env=True:=by
 unfold zAP;split
 ·omega
 ·omega
 ·split
  ·rfl
  ·split
   ·rfl
   ·split<;>rfl
@[simp] theorem qKY {σ : St}(h1:2<f):zDn f σ = σ:=by unfold zDn; rw[if_neg (by omega),if_neg (by omega)]
end
theorem qAm {a a' x x' y y' z z':List A}{fz fz':Bool}{e:TypeId}{s n:Nat}{cs cs':List A}:zLk [.box a,.row fz e s n cs,.box x,.box y,.box z] [.box a',.row fz' e s n cs',.box x',.box y',.box z']:=by
 intro l f e2 s2 n2 c2 h
 match l,h with
 | 0,h=>simp at h
 | 1,h =>
  simp at h;obtain⟨rfl,rfl,rfl,rfl,rfl⟩:=h;exact⟨fz',cs',rfl⟩
 | 2,h=>simp at h
 | 3,h=>simp at h
 | 4,h=>simp at h
 | n+5,h=>simp at h
end Go.Abs
namespace Go.Proofs.YthglhccibdlccaaGreatDoor
open Go.Abs
theorem zUB {d:Dfn}{j:Nat}(h:j<d.slots.length):(zBp d)[j]'(by simpa using h)=⟨d.slots[j].id,0,d.slots[j].typ⟩:=by simp[zBp]
set_option maxHeartbeats 4000000 in
set_option maxRecDepth 100000 in
theorem qIL (l:List Int)(M:List Md)(n:Nat)(hn:n≤100)(next:Int)(m0:Mk)(hm0:m0={mods:=M,defs:=m0.defs,l:=l,at_:=24,temp:=0,left:=0,own:=0,home:=Id.zero,name:=0})(ms:Nat→Mk)(h0:ms 0=m0)
 (hlen:∀i≤n,(ms i).defs.length=n)(hsl:∀i≤n,∀d∈(ms i).defs,d.slots.length≤6)(hst:∀i<n,zQ6 i (ms i) (ms (i+1)))(p:Prg)
 (hD:wpK Tryz.prog 0 zQG (zUY p) (qT [(2,.ptr 2 0),(4,.ptr 3 0),(8,int next),(13,.ptr 0 0)]) (mkS (ms n)++[.box [.nil,.nil],.box [.sl M.length (qM M),.row 1 (ms n).defs.length]])) :
 wpK Tryz.prog 0 zQF (zUY p) (qT [(0,.sl l.length (yF l)),(2,.ptr 0 0),(4,.ptr 1 0),(8,int next)])
  [.box [.nil,.nil],.box [.sl M.length (qM M),.row 2 n],.row false 39 31 n (zZ m0.defs)]:=by
 have hl0:=hlen 0 (by omega);rw[h0]at hl0;have e0:mkS m0=[.box [.sl M.length (qM M),.row 1 n,.sl l.length (yF l),int 24,int 0,int 0,int 0,int 0,int 0,int 0,int 0],.row false 39 31 n (zZ m0.defs)]:=by rw[hm0];simp[mkS,mkB,Id.zero,hl0]
 unfold zQF;simp;refine qZ (S:=Nat) (fun i=>[(2,.ptr 2 0),(4,.ptr 3 0),(8,int next),(13,.ptr 0 0),(14,int i)])
  (fun i=>mkS (ms i)++[.box [.nil,.nil],.box [.sl M.length (qM M),.row 1 n]]) (fun i=>i≤n) (fun i=>n-i) 0 (by simp)
  (zS [3,2,0,1] 0 (by decide) (by simp) (by simp[h0,e0]) (by simp)) ?_
 intro i hi;by_cases h:i<n
 ·obtain⟨d,hd,hcase⟩:=hst i h;obtain⟨hlt,hce⟩:=List.getElem?_eq_some_iff.1 hd;have hli:=hlen i hi;have hd6:=hsl i hi d (hce▸List.getElem_mem hlt);generalize hms':ms (i+1)=m' at hcase;generalize hms:ms i=m at *
  have hdr:=yB hlt;have hi8:(i:Int)≤100:=by omega
  have wi:IntKind.i64.wrap ((i:Int)+1)=i+1:=IntWalk.i64_in _ (by omega);rw[hce]at hdr;have hb31:i*31+31≤n*31:=by omega
  rcases hcase with ⟨hk,hm'⟩ | ⟨⟨hk0,hk1⟩,e1,m1,g1,gd,gm,gl,hcase⟩
  ·subst hm';rcases hk with hk | hk
   ·simp[mkS,mkB,h,hdr,hb31,hli,zP,hk];exact zT (i+1) h (by omega) (zS [0,1,2,3] 0 (by decide) (by simp) (by simp[mkS,mkB,hms',hli]) (by simp[wi]))
   ·simp[mkS,mkB,h,hdr,hb31,hli,zP,hk];exact zT (i+1) h (by omega) (zS [0,1,2,3] 0 (by decide) (by simp) (by simp[mkS,mkB,hms',hli]) (by simp[wi]))
  ·simp[mkS,mkB,h,hdr,hb31,hli,zP,hk0,hk1];refine qZ (S:=Nat) (fun j=>[(2,.ptr 2 0),(4,.ptr 3 0),(8,int next),(13,.ptr 0 0),(14,int i),(15,.ptr 4 0),(16,.row 5 j),(17,int j)])
    (fun j=>mkS m++[.box [.nil,.nil],.box [.sl M.length (qM M),.row 1 n],.box (zP d),.row false 96 9 j (zQ ((zBp d).take j))]) (fun j=>j≤d.slots.length) (fun j=>d.slots.length-j) 0 (by simp)
    ((yA (t:=16) (by simp) 96 9).trans (zS [0,1,2,3,4,5] 0 (by decide) (by simp) (by simp[mkS,mkB,zP,hli]) (by simp))) ?_
   intro j hj;by_cases hjl:j<d.slots.length
   ·have hdS0:List.drop (j*11) (jU d.slots)=zAd d.slots[j]++jU (d.slots.drop (j+1)):=jL hjl;have hdS:List.drop (j*11+4) (jU d.slots)=(zAd d.slots[j]++jU (d.slots.drop (j+1))).drop 4:=by rw[←List.drop_drop,hdS0]
    have hbS:j*11+4+5≤d.slots.length*11:=by omega
    have hbS3:j*11+3≤d.slots.length*11:=by omega
    have hst2:=zHW (l:=zBp d) (i:=j) (by simpa using hjl);rw[zUB hjl]at hst2;have wj:IntKind.i64.wrap ((j:Int)+1)=j+1:=IntWalk.i64_in _ (by omega);simp[mkS,mkB,zP,hjl,hdS0,hdS,hbS,hbS3,zAd];intro _;refine⟨⟨by simp[maxLen]; omega,by omega⟩,?_⟩;exact zT (j+1) hjl (by omega) (zS [0,1,2,3,4,5] 0 (by decide) (by simp) (by simp[mkS,mkB,zP,hst2,zA9]) (by simp[wj]))
   ·have hje:j=d.slots.length:=by omega
    subst hje;have hall:(zBp d).take d.slots.length=zBp d:=List.take_of_length_le (by simp);have hw1:=zHY hlt e1;rw[hce]at hw1;have hdr14:List.drop (i*31+14) (zZ (m.defs.set i (d.wb e1)))=(zP (d.wb e1)++zZ ((m.defs.set i (d.wb e1)).drop (i+1))).drop 14:=by have:=yB (l:=m.defs.set i (d.wb e1)) (i:=i) (by simpa using hlt);rw[←List.drop_drop,this,List.getElem_set_self]
    have hb14:i*31+14+15≤n*31:=by omega
    have hnodes:=zOx e1 gl;simp[mkS,mkB,zP];intro _;refine⟨qT [(2,.ptr 2 0),(4,.ptr 3 0),(8,int next),(13,.ptr 0 0),(14,int i),(15,.ptr 4 0),(16,.sl (zBp d).length (zQ (zBp d)))],mkS m++[.box [.nil,.nil],.box [.sl M.length (qM M),.row 1 n],.box (zP d)],
     zS [0,1,2,3,4] 1 (by decide) (by simp) (by simp[mkS,mkB,zP]) (by simp[hall]),?_⟩
    unfold zZa;simp[mkS,mkB,zP];refine zQT g1 [0,1] (by decide) (by simp[mkS,mkB,mkA]) (by simp[zB]) (by simp) (by simp) (by simp[mkS]) (by simp[mkS,gd,hli]; exact qAm) ?_;have hclen:(zZ m.defs).length=n*31:=by rw[zPu,hli]
    have hdq:∀X:List A,List.drop (i*31+14) (List.take (i*31+14) (zZ m.defs)++X)=X:=fun X=>List.drop_left' (by rw[List.length_take,hclen]; omega)
    have hlen15:i*31+14+15≤min (i*31+14) (n*31)+(15+(n*31-(i*31+14+15))):=by omega
    simp[mkS,mkB,gd,hli,h,hb14,hdq,hlen15];refine zR hnodes (by simp) (by simp) ?_;rcases hcase with ⟨c30,hm'⟩ | ⟨c30,e2,m2,g2,gd2,gm2,hm'⟩
    ·have c30':¬(30:Int)<(tmps e1).length:=by omega
     simp[c30'];exact zT (i+1) h (by omega) (zS [0,1,2,3] 0 (by decide) (by simp) (by simp[mkS,mkB,hms',hm',mkD,gd,hli,←hw1]) (by simp[wi]))
    ·have c30':(30:Int)<(tmps e1).length:=by omega
     have hw2:=zHY (ds:=m.defs.set i (d.wb e1)) (i:=i) (by simpa using hlt) e2;rw[List.getElem_set_self]at hw2;have hww:(d.wb e1).wb e2=d.wb e2:=rfl;rw[hww,List.set_set]at hw2;simp[c30',hw1];refine zQT g2 [0,1] (by decide) (by simp[mkS,mkB,mkL,mkD,gd,hli]) (by simp[zB]) (by simp) (by simp) (by simp[mkS]) (by simp[mkS,gd2,hli]; exact qAm) ?_;simp[mkS,mkB,gd2,hli,h,hb14];exact zT (i+1) h (by omega) (zS [0,1,2,3] 0 (by decide) (by simp) (by simp[mkS,mkB,hms',hm',mkD,gd2,hli,←hw2]) (by simp[wi]))
 ·have hie:i=n:=by omega
  subst hie;have hli:=hlen i hi;simp[mkS,mkB,hli];exact⟨_,_,zS [0,1,2,3] 0 (by decide) (by simp) (by simp[mkS,mkB,hli]) (by simp),hD⟩
theorem zN9 {l:List ByteArray}{i:Nat}(h:i<l.length):(jY l).drop i=.lit (.string l[i])::jY (l.drop (i+1)):=by have:=zCc (enc:=zU8) (k:=1) (fun _=>rfl) h;rw[Nat.mul_one]at this;exact this
theorem zLW (mods:Int)(ps:List Pln)(c:Int){i:Nat}(h:i<ps.length):zFh mods ps c (i+1)=zFh mods ps c i++(if ps[i].mod=c then [idR (mods+i)] else []):=by
 simp only[zFh,List.range_succ,List.filter_append,List.map_append]
 congr 1
 simp only[List.filter_cons,List.getElem?_eq_getElem h,List.filter_nil,decide_eq_true_eq];split<;>simp
theorem zS4 {mods:Int}{ps:List Pln}{c:Int}(h:∀p∈ps,p.mod≠c)(i:Nat):zFh mods ps c i=[]:=by
 simp only[zFh,List.map_eq_nil_iff,List.filter_eq_nil_iff];intro j _;split
 ·rename_i p hp;have:=h p (List.mem_of_getElem? hp)
  simpa using this
 ·simp
theorem zOb (mods:Int)(ps:List Pln)(c:Int)(i:Nat):(zFh mods ps c i).length≤i:=by simp only[zFh,List.length_map];exact Nat.le_trans (List.length_filter_le _ _) (by simp)
def m0C:List A:=[int (idR 0).a,int (idR 0).b,int (idR 0).c,.lit (.string ⟨#[99,111,114,101]⟩)]
def m1C:List A:=[int (idR 1).a,int (idR 1).b,int (idR 1).c,.lit (.string ⟨#[109,105,108,108]⟩),.fsl 1 (qX (idR 0))]
def MC:Nat→List A
 | 0=>[]
 | 1=>m0C++[.nil,.nil]
 | _=>m0C++[.nil,.nil]++m1C++[.nil]
def MR (nm k0 k1:Nat):List A:=if nm=1 then m0C++[.row 5 k1,.row 4 k0] else m0C++[.nil,.row 4 k0]++m1C++[.row 5 k1]
theorem zRC {rf:Bool→Nat→Nat→A}{g:Nat→Option Nat}{nm k0 k1:Nat}(h4:g 4=some 4)(h5:g 5=some 5):vwL rf g (MR nm k0 k1)=MR nm k0 k1:=by unfold MR;split<;>simp[m0C,m1C,h4,h5,qX]
def stB (nm:Nat)(ps:List Pln)(i:Nat):St :=
 [.box [.nil,.nil],.box [.row 2 nm,.row 3 i],.row false 84 6 nm (MR nm (zFh nm ps 0 i).length (zFh nm ps 1 i).length),.row false 39 31 i (zZ ((zDG nm ps).take i)),
  .row false 29 3 (zFh nm ps 0 i).length (qF (zFh nm ps 0 i)),.row false 29 3 (zFh nm ps 1 i).length (qF (zFh nm ps 1 i))]
theorem zLm (next:Int)(p:Pln){k:Nat}(h:k<p.types.length):jU ((zAZ next p).take (k+1))=jU ((zAZ next p).take k)++zAd (zMv next p k):=by
 have:=zHZ (l:=zAZ next p) (i:=k) (by simpa using h);rw[this]
 congr 2
 simp[zAZ]
set_option maxHeartbeats 4000000 in
set_option maxRecDepth 100000 in
theorem qIK (l:List Int)(hl:∀x∈l,w64 x=x)(nm:Nat)(hnm:nm=1∨nm=2)(ps:List Pln)(hps:ps=qD l nm)(p:Prg)
 (hC:wpK Tryz.prog 0 zQF (zUY p) (qT [(0,.sl l.length (yF l)),(2,.ptr 0 0),(4,.ptr 1 0),(8,int (zAz nm ps ps.length))])
  [.box [.nil,.nil],.box [.sl (zJk nm ps).length (qM (zJk nm ps)),.row 2 ps.length],.row false 39 31 ps.length (zZ (zDG nm ps))]) :
 wpK Tryz.prog 0 zT0 (zUY p) (qT [(0,.sl l.length (yF l)),(2,.ptr 0 0),(3,int nm),(4,.ptr 1 0)])
  [.box [.nil,.nil],.box [.row 2 nm,.row 3 0],.row false 84 6 nm (MC nm),.row false 39 31 0 []]:=by
 have hpl:=zVI l nm (by omega) (by omega) hl;have hok:=zBs l nm (by omega) (by omega) hl;have hlen:=(zAO l nm).2;rw[←hps]at hpl hok hlen;have hnr:=zCR (mods:=nm) (ps:=ps) (by omega) (fun p hp=>(hok p hp).t6);have w0:IntKind.i64.wrap ((nm:Int)+ps.length)=nm+ps.length:=IntWalk.i64_in _ (by omega);have start:zBz 0 (qT [(0,.sl l.length (yF l)),(2,.ptr 0 0),(3,int nm),(4,.ptr 1 0),(7,.sl ps.length (yO ps)),(8,int (nm+ps.length)),(9,int 0)]) (stB nm ps 0)
  (qT [(0,.sl l.length (yF l)),(2,.ptr 0 0),(3,int nm),(4,.ptr 1 0),(7,.sl ps.length (yO ps)),(8,int (nm+ps.length)),(9,int 0)])
  [.box [.nil,.nil],.box [.row 2 nm,.row 3 0],.row false 84 6 nm (MC nm),.row false 39 31 0 []]:=by
  rcases hnm with rfl | rfl
  ·exact((zDR (l:=2) (o:=5) rfl rfl 29 3).trans (zDR (l:=2) (o:=4) rfl rfl 29 3)).trans (zS [0,1,2,3,4,5] 0 (by decide) (by simp) (by simp[stB,MC,MR,m0C,m1C,zFh]) (by simp))
  ·exact((zDR (l:=2) (o:=5) rfl rfl 29 3).trans (zDR (l:=2) (o:=11) rfl rfl 29 3)).trans (zS [0,1,2,3,4,5] 0 (by decide) (by simp) (by simp[stB,MC,MR,m0C,m1C,zFh,qX]) (by simp))
 have hl1:(zDG nm ps).length=ps.length:=zRU _ _;unfold zT0;simp;refine zR hpl (by simp) (by simp) ?_;simp[w0];intro _;refine qZ (S:=Nat) (fun i=>[(0,.sl l.length (yF l)),(2,.ptr 0 0),(3,int nm),(4,.ptr 1 0),(7,.sl ps.length (yO ps)),(8,int (zAz nm ps i)),(9,int i)]) (fun i=>stB nm ps i) (fun i=>i≤ps.length) (fun i=>ps.length-i) 0 (by simp)
  (zBz.trans (zS [0,1,2,3] 0 (by decide) (by simp) (by rcases hnm with rfl | rfl<;>simp[MC,m0C,m1C]) (by simp)) start) ?_
 intro i hi;by_cases h:i<ps.length
 ·have hpk:=hok _ (List.getElem_mem h);obtain⟨n0,n1⟩:=hnr i;have hns:=zKz nm ps h;have hdg:=zIg nm ps h;have hst:=zHX (l:=zDG nm ps) (i:=i) (by omega);rw[hdg]at hst;clear hdg;have hcg:=zN7 h;have i0:=zLW nm ps 0 h;have i1:=zLW nm ps 1 h;have l0:=zOb nm ps 0 i;have l1:=zOb nm ps 1 i;have hi8:(i:Int)≤8:=by omega
  have wi:IntKind.i64.wrap ((i:Int)+1)=i+1:=IntWalk.i64_in _ (by omega);have wmi:IntKind.i64.wrap ((nm:Int)+i)=nm+i:=IntWalk.i64_in _ (by omega);have hcg5:List.drop (i*11+5) (yO ps)=(zAQ ps[i]++yO (ps.drop (i+1))).drop 5:=by rw[←List.drop_drop,hcg]
  have hb5:i*11+5+5≤ps.length*11:=by omega
  generalize ps[i]=q at *
  generalize zAz nm ps i=nx at *
  simp[stB,h,hcg,hcg5,hb5,zAQ,wmi];intro _;refine zA3 (zFc (nm+i)) (by simp) (by simp) ?_;simp[h,hcg,hcg5,hb5,zAQ];refine zA3 (zFc q.mod) (by simp) (by simp) ?_;simp[h,hcg,hcg5,hb5,zAQ,qX];refine qZ (S:=Nat) (fun k=>[(0,.sl l.length (yF l)),(2,.ptr 0 0),(3,int nm),(4,.ptr 1 0),(7,.sl ps.length (yO ps)),(8,int (nx+k)),(9,int i),(10,.ptr 6 0),(11,int k)])
   (fun k=>stB nm ps i++[.box [int (idR (nm+i)).a,int (idR (nm+i)).b,int (idR (nm+i)).c,int q.kind,int (idR q.mod).a,int (idR q.mod).b,int (idR q.mod).c,.lit (.string q.name),.row 7 k,int q.out.k,int q.out.id.a,int q.out.id.b,int q.out.id.c,.sl q.out.kids.length (jB q.out.kids),int 0,int 0,int 0,int 0,int 0,int 0,int 0,int 0,int 0,int 0,int 0,int 0,.nil,.nil,.nil,int 0,.nil],
    .row false 90 11 k (jU ((zAZ nx q).take k))]) (fun k=>k≤q.types.length) (fun k=>q.types.length-k) 0 (by simp)
   ((zAf (l:=6) (o:=8) rfl rfl 90 11).trans (zS [0,1,2,3,4,5,6,7] 0 (by decide) (by simp) (by simp[stB,zRC]) (by simp))) ?_
  intro k hk;by_cases hkl:k<q.types.length
  ·have hnl:=hpk.names;have hkn:k<q.names.length:=by omega
   have hN:=zN9 hkn;have hT:=zCb hkl;have hT5:k*5+5≤q.types.length*5:=by omega
   have hS:=zLm nx q hkl;have t6:=hpk.t6;have wnk:IntKind.i64.wrap (nx+(k:Int)+1)=nx+k+1:=IntWalk.i64_in _ (by omega);have wk:IntKind.i64.wrap ((k:Int)+1)=k+1:=IntWalk.i64_in _ (by omega);have hcg2:List.drop (i*11+2) (yO ps)=(zAQ q++yO (ps.drop (i+1))).drop 2:=by rw[←List.drop_drop,hcg]
   have hsv:zMv nx q k=⟨idR (nx+k),q.names[k],q.types[k],if q.kind=4 then q.most.getD k 0 else 0,k⟩:=by simp[zMv,List.getD_eq_getElem?_getD,hkn,hkl]
   rw[hsv]at hS;by_cases hk4:q.kind=4
   ·have hkm:k<q.most.length:=by have:=hpk.most hk4; omega
    have hM:=zGd hkm;have hmg:q.most[k]?.getD 0=q.most[k]:=by simp[hkm]
    have hkm':k+1≤q.most.length:=hkm;simp[stB,h,hcg,zAQ,hkl]
    intros
    refine zA3 (zFc (nx+k)) (by simp) (by simp) ?_;simp[h,hcg,zAQ,hkn,hkl,hN,hT,hT5,zB,hk4,qX,hM,hkm,hkm']
    intros
    refine⟨⟨by simp[maxLen]; omega,by omega⟩,?_⟩;exact zT (k+1) hkl (by omega) (zS [0,1,2,3,4,5,6,7] 0 (by decide) (by simp) (by rw[hS]; simp[stB,zRC,zAd,hk4,hmg]) (by simp[wk,wnk]; omega))
   ·simp[stB,h,hcg,zAQ,hkl]
    intros
    refine zA3 (zFc (nx+k)) (by simp) (by simp) ?_;simp[h,hcg,zAQ,hkn,hkl,hN,hT,hT5,zB,hk4,qX]
    intros
    refine⟨⟨by simp[maxLen]; omega,by omega⟩,?_⟩;exact zT (k+1) hkl (by omega) (zS [0,1,2,3,4,5,6,7] 0 (by decide) (by simp) (by rw[hS]; simp[stB,zRC,zAd,hk4]) (by simp[wk,wnk]; omega))
  ·have hke:k=q.types.length:=by omega
   subst hke;have hall:(zAZ nx q).take q.types.length=zAZ nx q:=List.take_of_length_le (by simp);have t6:=hpk.t6;simp[stB,h,hcg,zAQ]
   intros
   refine⟨qT [(0,.sl l.length (yF l)),(2,.ptr 0 0),(3,int nm),(4,.ptr 1 0),(7,.sl ps.length (yO ps)),(8,int (nx+q.types.length)),(9,int i),(10,.ptr 6 0)],stB nm ps i++[.box (zP (zNE nm nx i q))],
    zS [0,1,2,3,4,5,6] 1 (by decide) (by simp) (by simp[stB,zRC,zP,zNE,hall,Exp.zero,Id.zero,Typ.zero]) (by simp),?_⟩
   unfold zZb;have m0:=hpk.mod0;have m1:=hpk.mod1;have hen:zP (zNE nm nx i q)=qX (idR (nm+i))++(zP (zNE nm nx i q)).drop 3:=rfl;have hcase:nm=1∧q.mod=0∨nm=2∧q.mod=0∨nm=2∧q.mod=1:=by omega
   have hd3:List.take 3 (zP (zNE nm nx i q))=[int (idR (nm+i)).a,int (idR (nm+i)).b,int (idR (nm+i)).c]:=rfl;rcases hcase with ⟨rfl,hq⟩ | ⟨rfl,hq⟩ | ⟨rfl,hq⟩
   ·have en:((1:Nat):Int)=1:=rfl;simp only[hq,en,if_true,if_false,show ((0:Int)=1)=False from by simp,show ((1:Int)=0)=False from by simp,List.append_nil]at i0 i1 hst hns l0 l1 hd3;simp[stB,h,hcg,zAQ,hq,MR,m0C,m1C,qX];refine⟨by simp[maxLen]; omega,⟨by simp[maxLen]; omega,by omega⟩,?_⟩;exact zT (i+1) h (by omega) (zS [0,1,2,3,4,5] 0 (by decide) (by simp) (by simp[stB,MR,m0C,m1C,qX,i0,i1,hst,hd3,jJ]) (by simp[wi,hns]))
   ·have en:((2:Nat):Int)=2:=rfl;simp only[hq,en,if_true,if_false,show ((0:Int)=1)=False from by simp,show ((1:Int)=0)=False from by simp,List.append_nil]at i0 i1 hst hns l0 l1 hd3;simp[stB,h,hcg,zAQ,hq,MR,m0C,m1C,qX];refine⟨by simp[maxLen]; omega,⟨by simp[maxLen]; omega,by omega⟩,?_⟩;exact zT (i+1) h (by omega) (zS [0,1,2,3,4,5] 0 (by decide) (by simp) (by simp[stB,MR,m0C,m1C,qX,i0,i1,hst,hd3,jJ]) (by simp[wi,hns]))
   ·have en:((2:Nat):Int)=2:=rfl;simp only[hq,en,if_true,if_false,show ((0:Int)=1)=False from by simp,show ((1:Int)=0)=False from by simp,List.append_nil]at i0 i1 hst hns l0 l1 hd3;simp[stB,h,hcg,zAQ,hq,MR,m0C,m1C,qX];refine⟨by simp[maxLen]; omega,⟨by simp[maxLen]; omega,by omega⟩,?_⟩;exact zT (i+1) h (by omega) (zS [0,1,2,3,4,5] 0 (by decide) (by simp) (by simp[stB,MR,m0C,m1C,qX,i0,i1,hst,hd3,jJ]) (by simp[wi,hns]))
 ·have hie:i=ps.length:=by omega
  subst hie;have hall:(zDG nm ps).take ps.length=zDG nm ps:=List.take_of_length_le (by simp);simp[stB]
  intros
  rcases hnm with rfl | rfl
  ·have hn1:zFh ((1:Nat):Int) ps 1 ps.length=[]:=zS4 (fun p hp=>by have:=(hok p hp).mod1; omega) _;have en:((1:Nat):Int)=1:=rfl;simp only[en]at hn1 hall;exact⟨_,_,zS [0,1,3] 2 (by decide) (by simp) (by simp[zJk,MR,m0C,m1C,zCa,zDV,hall,hn1]) (by simp),hC⟩
  ·have en:((2:Nat):Int)=2:=rfl;simp only[en]at hall;exact⟨_,_,zS [0,1,3] 2 (by decide) (by simp) (by simp[zJk,MR,m0C,m1C,zCa,zDV,hall,qX]) (by simp),hC⟩
end Go.Proofs.YthglhccibdlccaaGreatDoor
