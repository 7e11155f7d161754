/- The maker's programs, walked: the nodes get their IDs. -/
import Derived.Test.YtolkhapmieigcaaGreatDoorX15
set_option linter.unusedVariables false
set_option maxHeartbeats 8000000
set_option maxRecDepth 100000
set_option linter.unusedSimpArgs false
open Go.Proofs.Tryz (prog)
namespace Go.Proofs.YtolkhapmieigcaaGreatDoor
open Go.Abs
def zUi:K:=(G [D 137 4 1,L 138 137 1,J 139 10 31,kd 140 42 31 1 kz0 [(0,31,(kt 139))],kP 141 42 31 352 138 140,D 142 4 1,S 142 141 1] (K.dops [(0,1,D 143 4 0),(1,1,L 144 143 1),(2,0,M 145 7),(3,0,M 146 9),(4,1,kX 147 145 146 11),(5,1,D 148 147 10),(6,1,L 149 148 1),(7,0,D 150 4 0),(8,0,L 151 150 1),(9,0,M 152 7),(10,0,M 153 9),(11,0,kX 154 152 153 11),(12,0,D 155 154 10),(13,0,L 156 155 1),(14,0,kX 157 151 156 6),(15,0,D 158 157 5),(16,0,L 159 158 1),(17,0,D 160 10 0),(18,0,J 161 160 3),(19,0,kd 162 32 3 1 [ki,ki,ki] [(0,3,(kt 161))]),(20,0,kP 163 32 3 24 159 162),(21,0,kX 164 144 149 6),(22,0,D 165 164 5),(23,0,S 165 163 1)]))
def zUh:K:=(G [M 213 13,M 214 14,kU 215 213,D 216 215 6,S 216 214 1] (G [M 217 13,D 218 15 4,J 219 218 3,kU 220 217,D 221 220 7,S 221 219 3] (G [M 222 13,kU 223 222,D 224 223 5,⟨none,.st none (kt 224) (kc 14) 1⟩] (G [M 225 13,kU 226 225,D 227 226 10,⟨none,.st none (kt 227) (kc 0) 1⟩] (Z (K.dops [(0,2,D 228 4 1),(1,4002,L 229 228 1),(2,0,M 230 14),(3,0,M 231 13),(4,0,D 232 15 9),(5,0,J 233 232 5),(6,0,M 234 16),(7,3002,kC 235 37 [(kt 231),(kt 233),(kt 234),(kc 4)]),(8,4002,kX 236 229 230 31),(9,4002,D 237 236 14),(10,0,S 237 235 15)]) (G [D 238 4 1,L 239 238 1,M 240 14,kX 241 239 240 31,D 242 241 14,J 243 242 15,kC 244 38 [(kt 243)],kBi 245 244 30 .gtr] (Y 245 (G [M 246 13,kU 247 246,D 248 247 5,⟨none,.st none (kt 248) (kc 0) 1⟩] (K.dops [(0,2,D 249 4 1),(1,4002,L 250 249 1),(2,0,M 251 14),(3,0,M 252 13),(4,0,D 253 15 9),(5,0,J 254 253 5),(6,0,M 255 16),(7,3002,kC 256 37 [(kt 252),(kt 254),(kt 255),(kc 0)]),(8,4002,kX 257 250 251 31),(9,4002,D 258 257 14),(10,0,S 258 256 15)])) ks)))))))
def zMn:K:=(G [M 259 13,kU 260 259,D 261 260 4,L 262 261 1,⟨none,.mop (some 263) (.mks 32 3 24 [ki,ki,ki]) [(kt 262),(kt 262)]⟩,M 18 263] (Z (G [kMi 19 0] (K.block 10 (K.loop (Z (G [M 264 19,D 265 4 1,L 266 265 1,kN 267 266,kB 268 264 267 .lss] (Y 268 ks (K.exit 10))) (Z (K.block 11 (Z (G [D 271 4 1,L 272 271 1,M 273 19,kX 274 272 273 31,D 275 274 3,L 276 275 1,kQi 277 276 0 false,M 278 277,T 278 false (D 279 4 1),T 278 false (L 280 279 1),T 278 false (M 281 19),T 278 false (kX 282 280 281 31),T 278 false (D 283 282 3),T 278 false (L 284 283 1),T 278 false (kQi 285 284 1 false),kPt 286 278 285] (Y 286 (K.exit 11) ks)) (G [D 287 4 1,L 288 287 1,M 289 19,kX 290 288 289 31,D 291 290 14,J 292 291 15,kC 293 39 [(kt 292),(.const kl)],M 20 293] (Z (G [kMi 21 0] (K.block 12 (K.loop (Z (G [M 294 21,M 295 20,kN 296 295,kB 297 294 296 .lss] (Y 297 ks (K.exit 12))) (Z (K.block 13 (Z (K.dops [(0,0,M 300 18),(1,0,M 301 20),(2,0,M 302 21),(3,0,kX 303 301 302 1),(4,0,L 304 303 1),(5,0,M 305 8),(6,0,kC 306 35 [(kt 305)]),(7,0,kX 307 300 304 3),(8,0,S 307 306 3)]) (K.ops [M 308 8,kBi 309 308 1 .add,M 8 309]))) (K.ops [M 298 21,kBi 299 298 1 .add,M 21 299])))))) (K.dops [(0,0,D 310 4 1),(1,0,L 311 310 1),(2,0,M 312 19),(3,0,D 313 4 1),(4,0,L 314 313 1),(5,0,M 315 19),(6,0,kX 316 314 315 31),(7,0,D 317 316 14),(8,0,J 318 317 15),(9,0,M 319 18),(10,0,kC 320 40 [(kt 318),(kt 319)]),(11,0,kX 321 311 312 31),(12,0,D 322 321 14),(13,0,S 322 320 15)]))))) (K.ops [M 269 19,kBi 270 269 1 .add,
 M 19 270])))))) (G [J 323 4 2,S 2 323 2] kr)))
def zMm:K:=(G [J 166 4 2,M 167 0,kb 168 [kl,kl,kl,ki,ki,ki,ki,ki,ki,ki,ki] [(0,2,(kt 166)),(2,1,(kt 167)),(3,1,(kc 24))],kO 169 168,M 13 169] (Z (G [kMi 14 0] (K.block 6 (K.loop (Z (G [M 170 14,D 171 4 1,L 172 171 1,kN 173 172,kB 174 170 173 .lss] (Y 174 ks (K.exit 6))) (Z (K.block 7 (G [D 177 4 1,L 178 177 1,M 179 14,kX 180 178 179 31,J 181 180 31,kZ 15 kz0,S 15 181 31] (Z (G [D 182 15 3,L 183 182 1,kQi 184 183 0 false,M 185 184,T 185 false (D 186 15 3),T 185 false (L 187 186 1),T 185 false (kQi 188 187 1 false),kPt 189 185 188] (Y 189 (K.exit 7) ks)) (G [kMn 16] (Z (G [kMi 17 0] (K.block 8 (K.loop (Z (G [M 190 17,D 191 15 8,L 192 191 1,kN 193 192,kB 194 190 193 .lss] (Y 194 ks (K.exit 8))) (Z (K.block 9 (K.dops [(0,0,M 197 16),(1,0,D 198 15 8),(2,0,L 199 198 1),(3,0,M 200 17),(4,0,kX 201 199 200 11),(5,0,D 202 201 0),(6,0,J 203 202 3),(7,0,D 204 15 8),(8,0,L 205 204 1),(9,0,M 206 17),(10,0,kX 207 205 206 11),(11,0,D 208 207 4),(12,0,J 209 208 5),(13,0,kb 210 kz7 [(0,3,(kt 203)),(4,5,(kt 209))]),(14,0,kd 211 101 9 1 kz7 [(0,9,(kt 210))]),(15,0,kP 212 101 9 88 197 211),(16,0,M 16 212)])) (K.ops [M 195 17,kBi 196 195 1 .add,M 17 196])))))) (K.wk zUh)))))) (K.ops [M 175 14,kBi 176 175 1 .add,M 14 176])))))) (K.wk zMn)))
def zP7:K:=(G [M 48 0,M 49 3,kC 50 36 [(kt 48),(kt 49)],M 7 50] (G [M 51 3,M 52 7,kN 53 52,kB 54 51 53 .add,M 8 54] (Z (G [kMi 9 0] (K.block 2 (K.loop (Z (G [M 55 9,M 56 7,kN 57 56,kB 58 55 57 .lss] (Y 58 ks (K.exit 2))) (Z (K.block 3 (Z (K.dops [(0,0,M 61 3),(1,0,M 62 9),(2,0,kB 63 61 62 .add),(3,1,kC 64 35 [(kt 63)]),(4,0,M 65 7),(5,0,M 66 9),(6,1,kX 67 65 66 11),(7,1,D 68 67 0),(8,1,L 69 68 1),(9,0,M 70 7),(10,0,M 71 9),(11,1,kX 72 70 71 11),(12,1,D 73 72 10),(13,1,L 74 73 1),(14,1,kC 75 35 [(kt 74)]),(15,0,M 76 7),(16,0,M 77 9),(17,1,kX 78 76 77 11),(18,1,D 79 78 1),(19,1,L 80 79 1),(20,0,M 81 7),(21,0,M 82 9),(22,1,kX 83 81 82 11),(23,1,D 84 83 5),(24,1,J 85 84 5),(25,0,kb 86 kz0 [(0,3,(kt 64)),(3,1,(kt 69)),(4,3,(kt 75)),(7,1,(kt 80)),(9,5,(kt 85))]),(26,0,kZ 10 kz0),(27,0,S 10 86 31)]) (Z (G [kMi 11 0] (K.block 4 (K.loop (Z (G [M 87 11,M 88 7,M 89 9,kX 90 88 89 11,D 91 90 2,L 92 91 1,kN 93 92,kB 94 87 93 .lss] (Y 94 ks (K.exit 4))) (Z (K.block 5 (Z (K.dops [(0,0,M 97 8),(1,1,kC 98 35 [(kt 97)]),(2,0,M 99 7),(3,0,M 100 9),(4,1,kX 101 99 100 11),(5,1,D 102 101 3),(6,1,L 103 102 1),(7,0,M 104 11),(8,1,kX 105 103 104 1),(9,1,L 106 105 1),(10,0,M 107 7),(11,0,M 108 9),(12,1,kX 109 107 108 11),(13,1,D 110 109 2),(14,1,L 111 110 1),(15,0,M 112 11),(16,1,kX 113 111 112 5),(17,1,J 114 113 5),(18,0,M 115 11),(19,0,kb 116 kz5 [(0,3,(kt 98)),(3,1,(kt 106)),(4,5,(kt 114)),(10,1,(kt 115))]),(20,0,kZ 12 kz5),(21,0,S 12 116 11)]) (Z (G [D 117 10 3,
 L 118 117 1,kQi 119 118 4 false] (Y 119 (K.ops [M 120 7,M 121 9,kX 122 120 121 11,D 123 122 4,L 124 123 1,M 125 11,kX 126 124 125 1,L 127 126 1,D 128 12 9,S 128 127 1]) ks)) (G [D 129 10 8,L 130 129 1,J 131 12 11,kd 132 74 11 1 kz5 [(0,11,(kt 131))],kP 133 74 11 112 130 132,D 134 10 8,S 134 133 1] (K.ops [M 135 8,kBi 136 135 1 .add,M 8 136]))))) (K.ops [M 95 11,kBi 96 95 1 .add,M 11 96])))))) (K.wk zUi)))) (K.ops [M 59 9,kBi 60 59 1 .add,M 9 60])))))) (K.wk zMm))))
def qAO:K:=G [kZ 2 [kl,kl]] (G [M 22 0,kC 23 34 [(kt 22),(kc 0),(kc 2)],⟨none,.bin (some 24) .add (kc 1) (kt 23)⟩,M 3 24] (G [kZ 4 [kl,kl]] (Z (G [kMi 5 0] (K.block 0 (K.loop (Z (G [M 25 5,M 26 3,kB 27 25 26 .lss] (Y 27 ks (K.exit 0))) (Z (K.block 1 (Z (K.dops [(0,0,M 30 5),(1,1,kC 31 35 [(kt 30)]),(2,0,⟨none,.bslice (some 32) 9 1 2 [(.string ⟨#[]⟩),(.string ⟨#[]⟩)] [(0,1,(.const (.string ⟨#[99,111,114,101]⟩))),(1,1,(.const (.string ⟨#[109,105,108,108]⟩)))]⟩),(3,0,M 33 5),(4,1,kX 34 32 33 1),(5,1,L 35 34 1),(6,0,kb 36 kz9 [(0,3,(kt 31)),(3,1,(kt 35))]),(7,0,kZ 6 kz9),(8,0,S 6 36 6)]) (Z (G [M 37 5,kQi 38 37 1 false] (Y 38 (K.ops [kC 39 35 [(kc 0)],kd 40 32 3 1 [ki,ki,ki] [(0,3,(kt 39))],D 41 6 4,S 41 40 1]) ks)) (K.ops [D 42 4 0,L 43 42 1,J 44 6 6,kd 45 91 6 1 kz9 [(0,6,(kt 44))],kP 46 91 6 88 43 45,D 47 4 0,S 47 46 1])))) (K.ops [M 28 5,kBi 29 28 1 .add,M 5 29])))))) (K.wk zP7))))
def qKQ:Nat->Option wE:=fun|41=>k_ [2,4002,0,0,0,0,0,3002,4002,4002,0] | 44=>k_ [2,4002,0,0,0,0,0,3002,4002,4002,0] | 56=>k_ [0,0,0,0,0,0,0,0,0,0,0,0,0,0]|_=>none
theorem qIz:kx Tryz.f10 qKQ qAO:=mz (by kernel_rfl)
abbrev zQ5(p:Prg):=fin [RS.cell 2 2 true] (sM 0 (.agg (zI p)) [])
theorem qEt(m:Mk)(M:List Md)(next:Int)(N:Nat)(hN:m.temp=N)(hN1:N<=10000000000)(h0:0<=next)(h1:next<=1000000)(hd8:m.defs.length<=100)
 (hb:∀d∈m.defs,eU d=true->d.body.under N/\(∀c∈tmps d.body,0<=c/\c<N)/\(tmps d.body).length<=1000000) :
 wpK prog 0 zMn (zQ5 ⟨M,(cZ ⟨m.defs,cR N,next⟩ m.defs.length).ds⟩) (jR [(2,.ptr 2 0),(4,.ptr 3 0),(8,int next),(13,.ptr 0 0)])
  (mkS m++[.box [.nil,.nil],.box [.sl M.length (qC M),.row 1 m.defs.length]]):=by
 generalize hs:(⟨m.defs,cR N,next⟩:NSt)=s;have hsd:s.ds=m.defs:=by rw[<-hs]
 have hsi:s.ids.length=N:=by rw[<-hs];simp[cR]
 have hsn:s.next=next:=by rw[<-hs]
 have hz:=lY N;have hz2:s.ids=cR N:=by rw[<-hs]
 have hnx:∀i≤m.defs.length,0<=(cZ s i).next/\(cZ s i).next<=1000000+1000000*i:=by
  intro i;induction i with
  |zero=>intro _;simp only[cZ,hsn];omega
  |succ i ih =>
   intro hi;have ih:=ih (by omega);have hd:s.ds[i]?=some (m.defs[i]'(by omega)):=by rw[hsd,jA2 (by omega)]
   rw[zBU s hd];split
   .rename_i hbd;have:=(hb _ (jA0 (by omega)) hbd).2.2;simp only;omega
   .omega
 have h24:24*N<=281474976710656:=by omega
 unfold zMn;simp[mkS,mkB,hN,h24];refine⟨by omega,?_⟩;refine qH (S:=Nat) (fun i=>[(2,.ptr 0 0),(4,.ptr 1 0),(8,int (cZ s i).next),(18,.row 3 N),(19,int i)])
  (fun i=>[.box [.nil,.nil],.box [.sl M.length (qC M),.row 2 m.defs.length],.row false 42 31 m.defs.length (zV (cZ s i).ds),.row false 32 3 N (zS (cZ s i).ids)]) (fun i=>i<=m.defs.length) (fun i=>m.defs.length-i) 0 (by simp)
  (kf [2,3,1,4] 0 (by rfl) (by simp[cZ,hsd,hz2,<-hz]) (by simp[cZ,hsn])) ?_
 intro i hi;by_cases h:i<m.defs.length
 .have hd:s.ds[i]?=some m.defs[i]:=by rw[hsd,jA2 (by omega)]
  have hst:=zBU s hd;have hcur:(cZ s i).ds[i]?=some m.defs[i]:=by rw[rO s i i (jA _)];exact hd
  obtain⟨hlt,hce⟩:=jA5.1 hcur;obtain⟨hl1,hl2⟩:=tV s i;have hbd:=hb _ (jA0 h);obtain⟨nx0,nx1⟩:=hnx i hi;have hw:=uP hlt (fK (oK (lQ (cZ s i).ids (cZ s i).next (tmps m.defs[i].body))) m.defs[i].body);have hdr:=j5 hlt;rw[hce]at hw hdr;have hi8:(i:Int)<=100:=by omega
  have wi:=yU i (by omega);rw[hsd]at hl1;rw[hsi]at hl2;generalize hse:cZ s (i+1)=s' at hst;generalize hte:cZ s i=t at *
  generalize m.defs[i]=d at *
  have hb3:i*31+3+1<=m.defs.length*31:=by omega
  have hb14:i*31+14+15<=m.defs.length*31:=by omega
  have hdr3:List.drop (i*31+3) (zV t.ds)=(zQ d++zV (t.ds.drop (i+1))).drop 3:=by rw[<-jAy,hdr]
  have hdr14:List.drop (i*31+14) (zV t.ds)=(zQ d++zV (t.ds.drop (i+1))).drop 14:=by rw[<-jAy,hdr]
  have henc:zQ d=(zQ d).take 14++zH d.body++[.lit (.int .i64 d.place),.sl d.lay.length (aC d.lay)]:=rfl;by_cases hk0:d.kind=0
  .have hbf:eU d=false:=by simp[eU,hk0]
   rw[hbf]at hst;simp only[jAj,if_false]at hst;subst hst;simp[h,hdr3,hb3,hl1,zQ,hk0];exact zN (i+1) h (by omega) (mw [0,1,2,3] 0 (by rfl) (by simp[hse,wi]))
  .by_cases hk1:d.kind=1
   .have hbf:eU d=false:=by simp[eU,hk1]
    rw[hbf]at hst;simp only[jAj,if_false]at hst;subst hst;simp[h,hdr3,hb3,hl1,zQ,hk1];exact zN (i+1) h (by omega) (mw [0,1,2,3] 0 (by rfl) (by simp[hse,wi]))
   .have hbf:eU d=true:=by simp[eU,hk0,hk1]
    rw[hbf]at hst;simp only[if_true]at hst;obtain⟨bu,bc,bl⟩:=hbd hbf;have hnum:=zLB d.body (by omega);simp[h,hdr3,hb3,hl1,zQ,hk0,hk1,hdr14,hb14];refine mr hnum [] (by simp[zH]) ?_;generalize hO:tmps d.body=O at *
    simp[iQ];refine qH (S:=Nat) (fun k=>[(2,.ptr 0 0),(4,.ptr 1 0),(8,int (t.next+k)),(18,.row 3 N),(19,int i),(20,.row 4 O.length),(21,int k)])
     (fun k=>[.box [.nil,.nil],.box [.sl M.length (qC M),.row 2 m.defs.length],.row false 42 31 m.defs.length (zV t.ds),.row false 32 3 N (zS (lQ t.ids t.next (O.take k))),iQ O]) (fun k=>k<=O.length) (fun k=>O.length-k) 0 (by simp)
     (mw [0,1,2,3,4] 0 (by rfl) (by simp[iQ,lQ])) ?_
    intro k hk;by_cases hkl:k<O.length
    .obtain⟨hc0,hc1⟩:=bc O[k] (jA0 hkl);obtain⟨c,hc⟩:∃c:Nat,O[k]=c:=⟨O[k].toNat,by omega⟩;have hod:=uY hkl;rw[hc]at hod hc1;have hcN:c<N:=by omega
     have hst2:=zOV hkl t.ids t.next;rw[hc]at hst2;have hsl:(lQ t.ids t.next (O.take k)).length=N:=by rw[zBn];exact hl2
     have hset:=pR (R:=lQ t.ids t.next (O.take k)) (k:=c) (idR (t.next+k)) (by omega);have wk1:=yU k (by omega);have wk2:=z8 (t.next+(k:Int)+1) (by omega);have hb3c:c*3+3<=N*3:=by omega
     have hkl':k+1<=O.length:=hkl;simp[iQ,hkl,hkl',hod];refine qB (sE (t.next+k)) (by simp) (by simp) ?_;simp[zX,hcN,hsl,hb3c];exact zN (k+1) hkl (by omega) (kf [0,1,2,3,4] 0 (by rfl) (by simp[iQ,hst2,<-hset,zX]) (by simp[wk1,wk2];omega))
    .have hke:k=O.length:=by omega
     subst hke;have hren:=zEG (lQ t.ids t.next O) d.body (by rw[zBn,hl2];exact bu);have hsl:(lQ t.ids t.next O).length=N:=by rw[zBn];exact hl2
     unfold aJ at hren;rw[hsl]at hren;rw[jB2];simp[iQ,h,hl1,hdr14,hb14,zQ];refine zWE hren [3] (by simp) (by simp) (by simp[zH]) (by simp) (by simp) ?_;simp[h,hl1,hb14];exact zN (i+1) h (by omega) (kf [0,1,2,3] 0 (by rfl) (by simp[hse,hst,<-hw]) (by simp[wi,hse,hst]))
 .have hie:i=m.defs.length:=by omega
  subst hie;obtain⟨hl1,hl2⟩:=tV s m.defs.length;rw[hsd]at hl1;simp;exact zC 1 (by simp[zI,hl1])
end Go.Proofs.YtolkhapmieigcaaGreatDoor
namespace Go.Abs
section
variable{d:wD}{x i:Operand}{n f:Nat}{g:Bool}{env:Env}{l:List Operand}
@[simp]theorem zZF(h1:4000<=f):cJ f (.ld d x n g) env=eG (f-4000) (ev env x):=propext (zKj h1)
@[simp]theorem zXR(h1:4000<=f):cJ f (.idx d x i n) env=isRow (ev env x):=propext (zGH h1)
@[simp]theorem zZE{o:Nat}(h1:6<f):cJ f (.addr d x o) env=True:=by
 unfold cJ;split
 .omega
 .omega
 .split
  .rfl
  .split
   .rfl
   .split<;>rfl
@[simp]theorem zXQ(h1:6<f):cJ f (.call d x l) env=True:=by
 unfold cJ;split
 .omega
 .omega
 .split
  .rfl
  .split
   .rfl
   .split<;>rfl
@[simp]theorem qHh{U:St}(h1:2<f):m9 f U = U:=by unfold m9;rw[if_neg (by omega),if_neg (by omega)]
end
theorem zVz{a a' x x' y y' z z':wF}{fz fz':Bool}{e:TypeId}{s n:Nat}{cs cs':wF}:zFs [.box a,.row fz e s n cs,.box x,.box y,.box z] [.box a',.row fz' e s n cs',.box x',.box y',.box z']:=by
 intro l f e2 s2 n2 c2 h
 match l,h with
 | 0,h=>simp at h
 | 1,h =>
  simp at h;obtain⟨rfl,rfl,rfl,rfl,rfl⟩:=h;exact⟨fz',cs',rfl⟩
 | 2,h=>simp at h
 | 3,h=>simp at h
 | 4,h=>simp at h
 |n+5,h=>simp at h
end Go.Abs
namespace Go.Proofs.YtolkhapmieigcaaGreatDoor
open Go.Abs
theorem zQx{d:Dfn}{j:Nat}(h:j<d.slots.length):(cC d)[j]'(by simpa using h)=⟨d.slots[j].id,0,d.slots[j].typ⟩:=by simp[cC]
theorem qEs(l:wC)(M:List Md)(n:Nat)(hn:n<=100)(next:Int)(m0:Mk)(hm0:m0={mods:=M,defs:=m0.defs,l:=l,at_:=24,temp:=0,left:=0,own:=0,home:=Id.zero,name:=0})(ms:Nat->Mk)(h0:ms 0=m0)
 (hlen:∀i≤n,(ms i).defs.length=n)(hsl:∀i≤n,∀d∈(ms i).defs,d.slots.length<=6)(hst:∀i<n,zMj i (ms i) (ms (i+1)))(p:Prg)
 (hD:wpK prog 0 zMn (zQ5 p) (jR [(2,.ptr 2 0),(4,.ptr 3 0),(8,int next),(13,.ptr 0 0)]) (mkS (ms n)++[.box [.nil,.nil],.box [.sl M.length (qC M),.row 1 (ms n).defs.length]])) :
 wpK prog 0 zMm (zQ5 p) (jR [(0,.sl l.length (y3 l)),(2,.ptr 0 0),(4,.ptr 1 0),(8,int next)])
  [.box [.nil,.nil],.box [.sl M.length (qC M),.row 2 n],.row false 42 31 n (zV m0.defs)]:=by
 have hl0:=hlen 0 (by omega);rw[h0]at hl0;have e0:mkS m0=[.box [.sl M.length (qC M),.row 1 n,.sl l.length (y3 l),int 24,int 0,int 0,int 0,int 0,int 0,int 0,int 0],.row false 42 31 n (zV m0.defs)]:=by rw[hm0];simp[mkS,mkB,Id.zero,hl0]
 unfold zMm;simp;refine qH (S:=Nat) (fun i=>[(2,.ptr 2 0),(4,.ptr 3 0),(8,int next),(13,.ptr 0 0),(14,int i)])
  (fun i=>mkS (ms i)++[.box [.nil,.nil],.box [.sl M.length (qC M),.row 1 n]]) (fun i=>i<=n) (fun i=>n-i) 0 (by simp)
  (mw [3,2,0,1] 0 (by rfl) (by simp[h0,e0])) ?_
 intro i hi;by_cases h:i<n
 .obtain⟨d,hd,hcase⟩:=hst i h;obtain⟨hlt,hce⟩:=jA5.1 hd;have hli:=hlen i hi;have hd6:=hsl i hi d (hce▸jA0 hlt);generalize hms':ms (i+1)=m' at hcase;generalize hms:ms i=m at *
  have hdr:=j5 hlt;have hi8:(i:Int)<=100:=by omega
  have wi:=yU i (by omega);rw[hce]at hdr;have hb31:i*31+31<=n*31:=by omega
  rcases hcase with ⟨hk,hm'⟩|⟨⟨hk0,hk1⟩,e1,m1,g1,gd,gm,gl,hcase⟩
  .subst hm';rcases hk with hk|hk
   all_goals
    simp[mkS,mkB,h,hdr,hb31,hli,zQ,hk];exact zN (i+1) h (by omega) (mw [0,1,2,3] 0 (by rfl) (by simp[mkS,mkB,hms',hli,wi]))
  .simp[mkS,mkB,h,hdr,hb31,hli,zQ,hk0,hk1];refine qH (S:=Nat) (fun j=>[(2,.ptr 2 0),(4,.ptr 3 0),(8,int next),(13,.ptr 0 0),(14,int i),(15,.ptr 4 0),(16,.row 5 j),(17,int j)])
    (fun j=>mkS m++[.box [.nil,.nil],.box [.sl M.length (qC M),.row 1 n],.box (zQ d),.row false 101 9 j (zU ((cC d).take j))]) (fun j=>j<=d.slots.length) (fun j=>d.slots.length-j) 0 (by simp)
    ((jS (t:=16) (by simp) 101 9).trans (mw [0,1,2,3,4,5] 0 (by rfl) (by simp[mkS,mkB,zQ,hli]))) ?_
   intro j hj;by_cases hjl:j<d.slots.length
   .have hdS0:List.drop (j*11) (qW d.slots)=aD d.slots[j]++qW (d.slots.drop (j+1)):=jN hjl;have hdS:List.drop (j*11+4) (qW d.slots)=(aD d.slots[j]++qW (d.slots.drop (j+1))).drop 4:=by rw[<-jAy,hdS0]
    have hbS:j*11+4+5<=d.slots.length*11:=by omega
    have hbS3:j*11+3<=d.slots.length*11:=by omega
    have hst2:=zB6 (l:=cC d) (i:=j) (by simpa using hjl);rw[zQx hjl]at hst2;have wj:=yU j (by omega);simp[mkS,mkB,zQ,hjl,hdS0,hdS,hbS,hbS3,aD];intro _;refine⟨⟨by simp[maxLen];omega,by omega⟩,?_⟩;exact zN (j+1) hjl (by omega) (mw [0,1,2,3,4,5] 0 (by rfl) (by simp[mkS,mkB,zQ,hst2,bZ,wj]))
   .have hje:j=d.slots.length:=by omega
    subst hje;have hall:(cC d).take d.slots.length=cC d:=jAh (by simp);have hw1:=uP hlt e1;rw[hce]at hw1;have hdr14:List.drop (i*31+14) (zV (m.defs.set i (d.wb e1)))=(zQ (d.wb e1)++zV ((m.defs.set i (d.wb e1)).drop (i+1))).drop 14:=by have:=j5 (l:=m.defs.set i (d.wb e1)) (i:=i) (by simpa using hlt);rw[<-jAy,this,jDs]
    have hb14:i*31+14+15<=n*31:=by omega
    have hnodes:=zJ6 e1 gl;simp[mkS,mkB,zQ];intro _;refine⟨jR [(2,.ptr 2 0),(4,.ptr 3 0),(8,int next),(13,.ptr 0 0),(14,int i),(15,.ptr 4 0),(16,.sl (cC d).length (zU (cC d)))],mkS m++[.box [.nil,.nil],.box [.sl M.length (qC M),.row 1 n],.box (zQ d)],
     mw [0,1,2,3,4] 1 (by rfl) (by simp[mkS,mkB,zQ,hall]),?_⟩
    unfold zUh;simp[mkS,mkB,zQ];refine zM4 g1 [0,1] (by decide) (by simp[mkS,mkB,mkA]) (by simp[zB]) (by simp) (by simp) (by simp[mkS]) (by simp[mkS,gd,hli];exact zVz) ?_;have hclen:(zV m.defs).length=n*31:=by rw[zKH,hli]
    have hdq:∀X:wF,List.drop (i*31+14) (List.take (i*31+14) (zV m.defs)++X)=X:=fun X=>jD3 (by rw[jAv,hclen];omega)
    have hlen15:i*31+14+15<=min (i*31+14) (n*31)+(15+(n*31-(i*31+14+15))):=by omega
    simp[mkS,mkB,gd,hli,h,hb14,hdq,hlen15];refine mu hnodes (by simp) ?_;rcases hcase with ⟨c30,hm'⟩|⟨c30,e2,m2,g2,gd2,gm2,hm'⟩
    .have c30':¬(30:Int)<(tmps e1).length:=by omega
     simp[c30'];exact zN (i+1) h (by omega) (kf [0,1,2,3] 0 (by rfl) (by simp[mkS,mkB,hms',hm',mkD,gd,hli,<-hw1]) (by simp[wi]))
    .have c30':(30:Int)<(tmps e1).length:=by omega
     have hw2:=uP (ds:=m.defs.set i (d.wb e1)) (i:=i) (by simpa using hlt) e2;rw[jDs]at hw2;have hww:(d.wb e1).wb e2=d.wb e2:=rfl;rw[hww,List.set_set]at hw2;simp[c30',hw1];refine zM4 g2 [0,1] (by decide) (by simp[mkS,mkB,mkL,mkD,gd,hli]) (by simp[zB]) (by simp) (by simp) (by simp[mkS]) (by simp[mkS,gd2,hli];exact zVz) ?_;simp[mkS,mkB,gd2,hli,h,hb14];exact zN (i+1) h (by omega) (kf [0,1,2,3] 0 (by rfl) (by simp[mkS,mkB,hms',hm',mkD,gd2,hli,<-hw2]) (by simp[wi]))
 .have hie:i=n:=by omega
  subst hie;have hli:=hlen i hi;simp[mkS,mkB,hli];exact⟨_,_,mw [0,1,2,3] 0 (by rfl) (by simp[mkS,mkB,hli]),hD⟩
variable{l:List ByteArray}{i:Nat}
theorem zIy(h:i<l.length):(aC l).drop i=.lit (.string l[i])::aC (l.drop (i+1)):=by have:=gE (enc:=zQv) (k:=1) (fun _=>rfl) h;rw[Nat.mul_one]at this;exact this
theorem zGj(mods:Int)(ps:List Pln)(c:Int)(h:i<ps.length):sJ mods ps c (i+1)=sJ mods ps c i++(if ps[i].mod=c then [idR (mods+i)]else []):=by
 simp only[sJ,List.range_succ,jCs,jBh]
 congr 1
 simp only[List.filter_cons,jA2 h,List.filter_nil,decide_eq_true_eq];split<;>simp
theorem zOr{mods:Int}{ps:List Pln}{c:Int}(h:∀p∈ps,p.mod≠c)(i:Nat):sJ mods ps c i=[]:=by
 simp only[sJ,List.map_eq_nil_iff,List.filter_eq_nil_iff];intro j _;split
 .rename_i p hp;have:=h p (jBu hp)
  simpa using this
 .simp
theorem zJb(mods:Int)(ps:List Pln)(c:Int)(i:Nat):(sJ mods ps c i).length<=i:=by simp only[sJ,jAa];exact jB1 (jBg _ _) (by simp)
def m0C:wF:=[int (idR 0).a,int (idR 0).b,int (idR 0).c,.lit (.string ⟨#[99,111,114,101]⟩)]
def m1C:wF:=[int (idR 1).a,int (idR 1).b,int (idR 1).c,.lit (.string ⟨#[109,105,108,108]⟩),.fsl 1 (zX (idR 0))]
def MC:Nat->wF
 | 0=>[]
 | 1=>m0C++[.nil,.nil]
 |_=>m0C++[.nil,.nil]++m1C++[.nil]
def MR(nm k0 k1:Nat):wF:=if nm=1 then m0C++[.row 5 k1,.row 4 k0]else m0C++[.nil,.row 4 k0]++m1C++[.row 5 k1]
theorem zNu{rf:Bool->Nat->Nat->A}{g:Nat->wD}{nm k0 k1:Nat}(h4:g 4=some 4)(h5:g 5=some 5):vwL rf g (MR nm k0 k1)=MR nm k0 k1:=by unfold MR;split<;>simp[m0C,m1C,h4,h5,zX]
def stB(nm:Nat)(ps:List Pln)(i:Nat):St :=
 [.box [.nil,.nil],.box [.row 2 nm,.row 3 i],.row false 91 6 nm (MR nm (sJ nm ps 0 i).length (sJ nm ps 1 i).length),.row false 42 31 i (zV ((nP nm ps).take i)),
  .row false 32 3 (sJ nm ps 0 i).length (zS (sJ nm ps 0 i)),.row false 32 3 (sJ nm ps 1 i).length (zS (sJ nm ps 1 i))]
theorem zFw(next:Int)(p:Pln){k:Nat}(h:k<p.types.length):qW ((dA next p).take (k+1))=qW ((dA next p).take k)++aD (zGE next p k):=by
 have:=zB9 (l:=dA next p) (i:=k) (by simpa using h);rw[this]
 congr 2
 simp[dA]
theorem qEr(l:wC)(hl:∀x∈l,w64 x=x)(nm:Nat)(hnm:nm=1\/nm=2)(ps:List Pln)(hps:ps=qA l nm)(p:Prg)
 (hC:wpK prog 0 zMm (zQ5 p) (jR [(0,.sl l.length (y3 l)),(2,.ptr 0 0),(4,.ptr 1 0),(8,int (a8 nm ps ps.length))])
  [.box [.nil,.nil],.box [.sl (zAY nm ps).length (qC (zAY nm ps)),.row 2 ps.length],.row false 42 31 ps.length (zV (nP nm ps))]) :
 wpK prog 0 zP7 (zQ5 p) (jR [(0,.sl l.length (y3 l)),(2,.ptr 0 0),(3,int nm),(4,.ptr 1 0)])
  [.box [.nil,.nil],.box [.row 2 nm,.row 3 0],.row false 91 6 nm (MC nm),.row false 42 31 0 []]:=by
 have hpl:=zRw l nm (by omega) (by omega) hl;have hok:=dX l nm (by omega) (by omega) hl;have hlen:=(bR l nm).2;rw[<-hps]at hpl hok hlen;have hnr:=lK (mods:=nm) (ps:=ps) (by omega) (fun p hp=>(hok p hp).t6);have w0:=z8 ((nm:Int)+ps.length) (by omega);have start:fI 0 (jR [(0,.sl l.length (y3 l)),(2,.ptr 0 0),(3,int nm),(4,.ptr 1 0),(7,.sl ps.length (yS ps)),(8,int (nm+ps.length)),(9,int 0)]) (stB nm ps 0)
  (jR [(0,.sl l.length (y3 l)),(2,.ptr 0 0),(3,int nm),(4,.ptr 1 0),(7,.sl ps.length (yS ps)),(8,int (nm+ps.length)),(9,int 0)])
  [.box [.nil,.nil],.box [.row 2 nm,.row 3 0],.row false 91 6 nm (MC nm),.row false 42 31 0 []]:=by
  rcases hnm with rfl|rfl
  .exact((oB (l:=2) (o:=5) rfl rfl 32 3).trans (oB (l:=2) (o:=4) rfl rfl 32 3)).trans (mw [0,1,2,3,4,5] 0 (by rfl) (by simp[stB,MC,MR,m0C,m1C,sJ]))
  .exact((oB (l:=2) (o:=5) rfl rfl 32 3).trans (oB (l:=2) (o:=11) rfl rfl 32 3)).trans (mw [0,1,2,3,4,5] 0 (by rfl) (by simp[stB,MC,MR,m0C,m1C,sJ,zX]))
 have hl1:(nP nm ps).length=ps.length:=zNM _ _;unfold zP7;simp;refine mu hpl (by simp) ?_;simp[w0];intro _;refine qH (S:=Nat) (fun i=>[(0,.sl l.length (y3 l)),(2,.ptr 0 0),(3,int nm),(4,.ptr 1 0),(7,.sl ps.length (yS ps)),(8,int (a8 nm ps i)),(9,int i)]) (fun i=>stB nm ps i) (fun i=>i<=ps.length) (fun i=>ps.length-i) 0 (by simp)
  (fI.trans (kf [0,1,2,3] 0 (by rfl) (by rcases hnm with rfl|rfl<;>simp[MC,m0C,m1C]) (by simp)) start) ?_
 intro i hi;by_cases h:i<ps.length
 .have hpk:=hok _ (jA0 h);obtain⟨n0,n1⟩:=hnr i;have hns:=zEv nm ps h;have hdg:=uR nm ps h;have hst:=zB7 (l:=nP nm ps) (i:=i) (by omega);rw[hdg]at hst;clear hdg;have hcg:=zIx h;have i0:=zGj nm ps 0 h;have i1:=zGj nm ps 1 h;have l0:=zJb nm ps 0 i;have l1:=zJb nm ps 1 i;have hi8:(i:Int)<=8:=by omega
  have wi:=yU i (by omega);have wmi:=z8 ((nm:Int)+i) (by omega);have hcg5:List.drop (i*11+5) (yS ps)=(cY ps[i]++yS (ps.drop (i+1))).drop 5:=by rw[<-jAy,hcg]
  have hb5:i*11+5+5<=ps.length*11:=by omega
  generalize ps[i]=q at *
  generalize a8 nm ps i=nx at *
  simp[stB,h,hcg,hcg5,hb5,cY,wmi];intro _;refine b9 (sE (nm+i)) (by simp) (by simp) ?_;simp[h,hcg,hcg5,hb5,cY];refine b9 (sE q.mod) (by simp) (by simp) ?_;simp[h,hcg,hcg5,hb5,cY,zX];refine qH (S:=Nat) (fun k=>[(0,.sl l.length (y3 l)),(2,.ptr 0 0),(3,int nm),(4,.ptr 1 0),(7,.sl ps.length (yS ps)),(8,int (nx+k)),(9,int i),(10,.ptr 6 0),(11,int k)])
   (fun k=>stB nm ps i++[.box [int (idR (nm+i)).a,int (idR (nm+i)).b,int (idR (nm+i)).c,int q.kind,int (idR q.mod).a,int (idR q.mod).b,int (idR q.mod).c,.lit (.string q.name),.row 7 k,int q.out.k,int q.out.id.a,int q.out.id.b,int q.out.id.c,.sl q.out.kids.length (jL q.out.kids),int 0,int 0,int 0,int 0,int 0,int 0,int 0,int 0,int 0,int 0,int 0,int 0,.nil,.nil,.nil,int 0,.nil],
    .row false 74 11 k (qW ((dA nx q).take k))]) (fun k=>k<=q.types.length) (fun k=>q.types.length-k) 0 (by simp)
   ((yI (l:=6) (o:=8) rfl rfl 74 11).trans (mw [0,1,2,3,4,5,6,7] 0 (by rfl) (by simp[stB,zNu]))) ?_
  intro k hk;by_cases hkl:k<q.types.length
  .have hnl:=hpk.names;have hkn:k<q.names.length:=by omega
   have hN:=zIy hkn;have hT:=gD hkl;have hT5:k*5+5<=q.types.length*5:=by omega
   have hS:=zFw nx q hkl;have t6:=hpk.t6;have wnk:=z8 (nx+(k:Int)+1) (by omega);have wk:=yU k (by omega);have hcg2:List.drop (i*11+2) (yS ps)=(cY q++yS (ps.drop (i+1))).drop 2:=by rw[<-jAy,hcg]
   have hsv:zGE nx q k=⟨idR (nx+k),q.names[k],q.types[k],if q.kind=4 then q.most.getD k 0 else 0,k⟩:=by simp[zGE,jBz,hkn,hkl]
   rw[hsv]at hS;by_cases hk4:q.kind=4
   .have hkm:k<q.most.length:=by have:=hpk.most hk4;omega
    have hM:=uY hkm;have hmg:q.most[k]?.getD 0=q.most[k]:=by simp[hkm]
    have hkm':k+1<=q.most.length:=hkm;simp[stB,h,hcg,cY,hkl]
    intros
    refine b9 (sE (nx+k)) (by simp) (by simp) ?_;simp[h,hcg,cY,hkn,hkl,hN,hT,hT5,zB,hk4,zX,hM,hkm,hkm']
    intros
    refine⟨⟨by simp[maxLen];omega,by omega⟩,?_⟩;exact zN (k+1) hkl (by omega) (kf [0,1,2,3,4,5,6,7] 0 (by rfl) (by rw[hS];simp[stB,zNu,aD,hk4,hmg]) (by simp[wk,wnk];omega))
   .simp[stB,h,hcg,cY,hkl]
    intros
    refine b9 (sE (nx+k)) (by simp) (by simp) ?_;simp[h,hcg,cY,hkn,hkl,hN,hT,hT5,zB,hk4,zX]
    intros
    refine⟨⟨by simp[maxLen];omega,by omega⟩,?_⟩;exact zN (k+1) hkl (by omega) (kf [0,1,2,3,4,5,6,7] 0 (by rfl) (by rw[hS];simp[stB,zNu,aD,hk4]) (by simp[wk,wnk];omega))
  .have hke:k=q.types.length:=by omega
   subst hke;have hall:(dA nx q).take q.types.length=dA nx q:=jAh (by simp);have t6:=hpk.t6;simp[stB,h,hcg,cY]
   intros
   refine⟨jR [(0,.sl l.length (y3 l)),(2,.ptr 0 0),(3,int nm),(4,.ptr 1 0),(7,.sl ps.length (yS ps)),(8,int (nx+q.types.length)),(9,int i),(10,.ptr 6 0)],stB nm ps i++[.box (zQ (zDI nm nx i q))],
    mw [0,1,2,3,4,5,6] 1 (by rfl) (by simp[stB,zNu,zQ,zDI,hall,Exp.zero,Id.zero,Typ.zero]),?_⟩
   unfold zUi;have m0:=hpk.mod0;have m1:=hpk.mod1;have hen:zQ (zDI nm nx i q)=zX (idR (nm+i))++(zQ (zDI nm nx i q)).drop 3:=rfl;have hcase:nm=1/\q.mod=0\/nm=2/\q.mod=0\/nm=2/\q.mod=1:=by omega
   have hd3:List.take 3 (zQ (zDI nm nx i q))=[int (idR (nm+i)).a,int (idR (nm+i)).b,int (idR (nm+i)).c]:=rfl;rcases hcase with ⟨rfl,hq⟩|⟨rfl,hq⟩|⟨rfl,hq⟩
   .have en:((1:Nat):Int)=1:=rfl;simp only[hq,en,if_true,if_false,show ((0:Int)=1)=False from by simp,show ((1:Int)=0)=False from by simp,jAs]at i0 i1 hst hns l0 l1 hd3;simp[stB,h,hcg,cY,hq,MR,m0C,m1C,zX];refine⟨by simp[maxLen];omega,⟨by simp[maxLen];omega,by omega⟩,?_⟩;exact zN (i+1) h (by omega) (mw [0,1,2,3,4,5] 0 (by rfl) (by simp[stB,MR,m0C,m1C,zX,i0,i1,hst,hd3,qD,wi,hns]))
   all_goals
    have en:((2:Nat):Int)=2:=rfl;simp only[hq,en,if_true,if_false,show ((0:Int)=1)=False from by simp,show ((1:Int)=0)=False from by simp,jAs]at i0 i1 hst hns l0 l1 hd3;simp[stB,h,hcg,cY,hq,MR,m0C,m1C,zX];refine⟨by simp[maxLen];omega,⟨by simp[maxLen];omega,by omega⟩,?_⟩;exact zN (i+1) h (by omega) (mw [0,1,2,3,4,5] 0 (by rfl) (by simp[stB,MR,m0C,m1C,zX,i0,i1,hst,hd3,qD,wi,hns]))
 .have hie:i=ps.length:=by omega
  subst hie;have hall:(nP nm ps).take ps.length=nP nm ps:=jAh (by simp);simp[stB]
  intros
  rcases hnm with rfl|rfl
  .have hn1:sJ ((1:Nat):Int) ps 1 ps.length=[]:=zOr (fun p hp=>by have:=(hok p hp).mod1;omega) _;have en:((1:Nat):Int)=1:=rfl;simp only[en]at hn1 hall;exact⟨_,_,mw [0,1,3] 2 (by rfl) (by simp[zAY,MR,m0C,m1C,gC,oH,hall,hn1]),hC⟩
  .have en:((2:Nat):Int)=2:=rfl;simp only[en]at hall;exact⟨_,_,mw [0,1,3] 2 (by rfl) (by simp[zAY,MR,m0C,m1C,gC,oH,hall,zX]),hC⟩
theorem zKk{e:Exp}{c:Int}(hc:c∈tmps e):∀{ks:wH},e∈ks->c∈jG ks
 |x::ks,h=>by
  simp only[jG,jA6];rcases jA3.1 h with rfl|h
  .exact .inl hc
  .exact .inr (zKk hc h)
theorem zME:∀(ks:wH),ks.length<=(jG ks).length
 |[]=>jA _
 |e::ks=>by
  have:=zME ks;have h1:1<=(tmps e).length:=by rw[a7,jA4,jAn];omega
  simp only[jG,jA4,jAb];omega
section
variable{N:Nat}{i:Id}{k n:Int}{r:Id}{t:Typ}{ks:wH}{ns:List ByteArray}
theorem yJ(hb:∀c∈tmps (.mk i k n r t ks ns),0<=c/\c<N)(hl:(tmps (.mk i k n r t ks ns)).length<=1000000000)(hk:k≠2)(hs:∀e∈ks,e.under N):(Exp.mk i k n r t ks ns).under N:=by simp only[Exp.under,zAq];have:=zME ks;simp only[tmps,jA4,jAn]at hl;exact⟨hb i.c (by simp[tmps]),fun h=>(hk h).elim,by omega,hs⟩
theorem cT(hb:∀c∈tmps (.mk i k n r t ks ns),0<=c/\c<N){e:Exp}(he:e∈ks):∀c∈tmps e,0<=c/\c<N:=fun c hc=>hb c (by simp only[tmps,jA6];exact .inl (zKk hc he))
theorem cU(hl:(tmps (.mk i k n r t ks ns)).length<=1000000000){e:Exp}(he:e∈ks):(tmps e).length<=1000000000:=by have:=uF he;simp only[tmps,jA4,jAn]at hl;omega
end
variable{env:wJ}{t:Typ}
theorem zRb{x:Id}{n:Int}(h:fG env x n=some t):∃b∈env,b.id=x/\b.n=n/\b.typ=t:=by simp only[fG,jAe]at h;obtain⟨b,hb,rfl⟩:=h;have h1:=jD7 hb;have h2:=jD6 hb;simp only[jA7,decide_eq_true_eq]at h2;exact⟨b,by simpa using h1,h2.1,h2.2,rfl⟩
variable{e:Exp}
theorem zRR{hs:wQ}{own:Int}{N:Nat}(h:WT hs own env e t):(∀b∈env,b.id.b=0->0<=b.id.c/\b.id.c<N)->(∀c∈tmps e,0<=c/\c<N)->(tmps e).length<=1000000000->e.under N:=by
 induction h with
 |int env i n h1 h2=>exact fun _ hb hl=>yJ hb hl (by omega) (by simp)
 |bool env i n h=>exact fun _ hb hl=>yJ hb hl (by omega) (by simp)
 |var env i n x t h =>
  intro he hb hl;simp only[Exp.under,zCp,and_true];obtain⟨b,h1,h2,_,_⟩:=zRb h;exact⟨hb i.c (by simp[tmps]),fun _ h0=>by rw[<-h2]at h0 ⊢;exact he b h1 h0,by simp⟩
 |call env i k h ks ho hk hlen hw ih =>
  refine fun he hb hl=>yJ hb hl (by omega) fun e hm=>?_
  obtain⟨j,hj,rfl⟩:=jAl hm;exact ih j hj he (cT hb hm) (cU hl hm)
 |arith env i n a b h1 h2 ha hb' iha ihb =>
  refine fun he hb hl=>yJ hb hl (by omega) fun e hm=>?_
  have k1:=cT hb hm;have k2:=cU hl hm;simp only[jA3,jAr,or_false]at hm;rcases hm with rfl|rfl
  .exact iha he k1 k2
  .exact ihb he k1 k2
 |less env i a b ha hb' iha ihb =>
  refine fun he hb hl=>yJ hb hl (by omega) fun e hm=>?_
  have k1:=cT hb hm;have k2:=cU hl hm;simp only[jA3,jAr,or_false]at hm;rcases hm with rfl|rfl
  .exact iha he k1 k2
  .exact ihb he k1 k2
 |same env i a b u ha hb' iha ihb =>
  refine fun he hb hl=>yJ hb hl (by omega) fun e hm=>?_
  have k1:=cT hb hm;have k2:=cU hl hm;simp only[jA3,jAr,or_false]at hm;rcases hm with rfl|rfl
  .exact iha he k1 k2
  .exact ihb he k1 k2
 |andor env i n a b h ha hb' iha ihb =>
  refine fun he hb hl=>yJ hb hl (by omega) fun e hm=>?_
  have k1:=cT hb hm;have k2:=cU hl hm;simp only[jA3,jAr,or_false]at hm;rcases hm with rfl|rfl
  .exact iha he k1 k2
  .exact ihb he k1 k2
 |not env i a ha iha =>
  refine fun he hb hl=>yJ hb hl (by omega) fun e hm=>?_
  have k1:=cT hb hm;have k2:=cU hl hm;simp only[jA3,jAr,or_false]at hm;subst hm;exact iha he k1 k2
 |join env i a b t ha hb' iha ihb =>
  refine fun he hb hl=>yJ hb hl (by omega) fun e hm=>?_
  have k1:=cT hb hm;have k2:=cU hl hm;simp only[jA3,jAr,or_false]at hm;rcases hm with rfl|rfl
  .exact iha he k1 k2
  .exact ihb he k1 k2
 |len env i a t ha iha =>
  refine fun he hb hl=>yJ hb hl (by omega) fun e hm=>?_
  have k1:=cT hb hm;have k2:=cU hl hm;simp only[jA3,jAr,or_false]at hm;subst hm;exact iha he k1 k2
 |ite env i a b c t ha hb' hc iha ihb ihc =>
  refine fun he hb hl=>yJ hb hl (by omega) fun e hm=>?_
  have k1:=cT hb hm;have k2:=cU hl hm;simp only[jA3,jAr,or_false]at hm;rcases hm with rfl|rfl|rfl
  .exact iha he k1 k2
  .exact ihb he k1 k2
  .exact ihc he k1 k2
 |lets env i a b u t ns hn ha hb' iha ihb =>
  refine fun he hb hl=>yJ hb hl (by omega) fun e hm=>?_
  have k1:=cT hb hm;have k2:=cU hl hm;have ki:=hb i.c (by simp[tmps]);simp only[jA3,jAr,or_false]at hm;rcases hm with rfl|rfl
  .exact iha he k1 k2
  .refine ihb (fun b hb0 h0=>?_) k1 k2;rcases jA6.1 hb0 with hb0|hb0
   .exact he b hb0 h0
   .rw[jAk.1 hb0];exact ki
 |record env i k h ks hk hlen hw ih =>
  refine fun he hb hl=>yJ hb hl (by omega) fun e hm=>?_
  obtain⟨j,hj,rfl⟩:=jAl hm;exact ih j hj he (cT hb hm) (cU hl hm)
 |field env i k h j hj a hk ha iha =>
  refine fun he hb hl=>yJ hb hl (by omega) fun e hm=>?_
  have k1:=cT hb hm;have k2:=cU hl hm;simp only[jA3,jAr,or_false]at hm;subst hm;exact iha he k1 k2
 |case env i k h j hj a hk ha iha =>
  refine fun he hb hl=>yJ hb hl (by omega) fun e hm=>?_
  have k1:=cT hb hm;have k2:=cU hl hm;simp only[jA3,jAr,or_false]at hm;subst hm;exact iha he k1 k2
 |mtch env i k h a ks t ns hn hk hlen ha hw iha ih =>
  refine fun he hb hl=>yJ hb hl (by omega) fun e hm=>?_
  have k1:=cT hb hm;have k2:=cU hl hm;have ki:=hb i.c (by simp[tmps]);rcases jA3.1 hm with rfl|hm
  .exact iha he k1 k2
  .obtain⟨j,hj,rfl⟩:=jAl hm;refine ih j hj (fun b hb0 h0=>?_) k1 k2;rcases jA6.1 hb0 with hb0|hb0
   .exact he b hb0 h0
   .rw[jAk.1 hb0];exact ki
 |list env i t ks hw ih =>
  refine fun he hb hl=>yJ hb hl (by omega) fun e hm=>?_
  obtain⟨j,hj,rfl⟩:=jAl hm;exact ih j hj he (cT hb hm) (cU hl hm)
 |fold env i l s b u t ns hn hl' hs' hb' ihl ihs ihb =>
  refine fun he hb hl=>yJ hb hl (by omega) fun e hm=>?_
  have k1:=cT hb hm;have k2:=cU hl hm;have ki:=hb i.c (by simp[tmps]);simp only[jA3,jAr,or_false]at hm;rcases hm with rfl|rfl|rfl
  .exact ihl he k1 k2
  .exact ihs he k1 k2
  .refine ihb (fun b hb0 h0=>?_) k1 k2;rcases jA6.1 hb0 with hb0|hb0
   .rcases jA6.1 hb0 with hb0|hb0
    .exact he b hb0 h0
    .rw[jAk.1 hb0];exact ki
   .rw[jAk.1 hb0];exact ki
structure Renamed(hs:List Hd)(k:Nat)(d:Dfn)(base:Int)(e:Exp)(f:Int->Id):Prop where
 body:d.body=fK f e
 wt:WT hs k (cC d) e d.res
 nd:(tmps e).Nodup
 num:e.num0
 len:(tmps e).length<=32768
 ids:∀(j:Nat) (h:j<(tmps e).length),f (tmps e)[j]=idR (base+j)
def nmV(l:wC):Nat:=(1+atV l 0 2).toNat
theorem zL8(l:wC)(hl:∀x∈l,w64 x=x):(nmV l:Int)=1+atV l 0 2/\(nmV l=1\/nmV l=2):=by obtain⟨a,b⟩:=yN (i:=0) hl (most:=2) (by omega);unfold nmV;omega
def NmD(d:Dfn):Prop:=d.name.size<=100/\∀s∈d.slots,s.name.size<=100
theorem zO9(h:(l.all fun n=>Nat.ble n.size 100)=true):∀n∈l,n.size<=100:=fun n hn=>Nat.le_of_ble_eq_true (jB0.1 h n hn)
theorem zHC(l:wC)(mods:Int):∀p∈qA l mods,p.name.size<=100/\∀n∈p.names,n.size<=100:=by
 intro p hp;have hp':p=cP l mods\/p=c6 l mods\/p=gU l mods\/p=zCb mods\/p=pF l mods\/p=vX mods\/p=pG l mods\/p=pT l mods\/p=pC l mods:=by
  simp only[qA,plB,plC,plD,plE,jA6,jA3]at hp;rcases hp with ((h|h|h)|h)|h|h|h|h
  .simp[h]
  .simp[h]
  .simp at h
  .split at h
   .simp at h;rcases h with h|h<;>simp[h]
   .simp at h
  .simp[h]
  .split at h<;>simp[h]
  .simp[h]
  .split at h
   .simp at h;simp[h]
   .simp at h
 rcases hp' with rfl|rfl|rfl|rfl|rfl|rfl|rfl|rfl|rfl<;>exact⟨Nat.le_of_ble_eq_true rfl,zO9 rfl⟩
theorem zKR{mods next:Int}{p:Pln}(h:p.name.size<=100/\∀n∈p.names,n.size<=100):NmD (zDI mods next i p):=by
 refine⟨h.1,fun s hs=>?_⟩;obtain⟨k,_,rfl⟩:=jAf.1 hs;show (p.names.getD k ⟨#[]⟩).size<=100;rw[jBz];cases hk:p.names[k]? with
 |none=>simp[ByteArray.size]
 |some n=>exact h.2 n (jBu hk)
theorem zEs(s:NSt)(h:∀d∈s.ds,NmD d):∀i:Nat,∀d∈(cZ s i).ds,NmD d
 | 0=>h
 |i+1=>by
  have ih:=zEs s h i;simp only[cZ,zEt];split
  .rename_i d hd;split
   .intro x hx;rcases List.mem_or_eq_of_mem_set hx with hx|rfl
    .exact ih x hx
    .exact ih d (jBu hd)
   .exact ih
  .exact ih
structure PrgOk(l:List Int)(P:Prg):Prop where
 mods:P.mods=zAY (nmV l) (qA l (nmV l))
 heads:P.defs.map Dfn.hd=hsV l (nmV l)
 names:∀d∈P.defs,NmD d
 bodies:∃base:Nat->Int,base 0=a8 (nmV l) (qA l (nmV l)) (qA l (nmV l)).length/\∀(k:Nat) (d:Dfn),P.defs[k]?=some d ->
  (eU d=false/\d.body=Exp.zero/\base (k+1)=base k)\/(eU d=true/\∃e f,Renamed (hsV l (nmV l)) k d (base k) e f/\base (k+1)=base k+(tmps e).length)
theorem zUM{hs:wQ}{n:Nat}{ms:Nat->Mk}(hf:∀i<n,zMi hs i (ms i) (ms (i+1))):∀i≤n,(ms 0).temp<=(ms i).temp/\(∀j,i<=j->(ms i).defs[j]?=(ms 0).defs[j]?) /\
 ∀j<i,∀d,(ms 0).defs[j]?=some d->(eU d=false/\(ms i).defs[j]?=some d)\/(eU d=true/\∃e lo,(ms i).defs[j]?=some (d.wb e)/\BGood hs j d lo (ms i).temp e/\(ms 0).temp<=lo)
 | 0,_=>⟨jCl _,fun _ _=>rfl,fun j hj=>by omega⟩
 |i+1,hi=>by
  obtain⟨t,c1,c2⟩:=zUM hf i (by omega);obtain⟨d,hd,ht,hc⟩:=hf i (by omega);have hlt:=(jA5.1 hd).1;have hd0:=c1 i (jA _);rw[hd]at hd0;rcases hc with ⟨hk,he⟩|⟨⟨hk0,hk1⟩,e,he,hg⟩
  .have hbd:eU d=false:=by rcases hk with h|h<;>simp[eU,h]
   refine⟨by omega,fun j hj=>by rw[he];exact c1 j (by omega),fun j hj d' hd'=>?_⟩;rw[he];by_cases e:j=i
   .subst e;rw[<-hd0]at hd';cases hd';exact .inl ⟨hbd,hd⟩
   .rcases c2 j (by omega) d' hd' with h|⟨h,e,lo,h1,h2,h3⟩
    .exact .inl h
    .exact .inr ⟨h,e,lo,h1,⟨h2.wt,h2.seg.mono (jCl _) ht,h2.num,h2.len⟩,h3⟩
  .have hbd:eU d=true:=by simp[eU,hk0,hk1]
   refine⟨by omega,fun j hj=>by rw[he,jAd (by omega)];exact c1 j (by omega),fun j hj d' hd'=>?_⟩;rw[he];by_cases e:j=i
   .subst e;rw[<-hd0]at hd';cases hd';exact .inr ⟨hbd,_,_,jAm hlt,hg,t⟩
   .rw[jAd (Ne.symm e)];rcases c2 j (by omega) d' hd' with h|⟨h,e,lo,h1,h2,h3⟩
    .exact .inl h
    .exact .inr ⟨h,e,lo,h1,⟨h2.wt,h2.seg.mono (jCl _) ht,h2.num,h2.len⟩,h3⟩
theorem zTA(l:wC)(hl:∀x∈l,w64 x=x):∃P:Prg,PrgOk l P/\my 10 [.sl l.length (y3 l)] [] (.agg (zI P)) []:=by
 obtain⟨hnm,hnm2⟩:=zL8 l hl;generalize hN:nmV l=nm at *
 have m1:1<=(nm:Int):=by omega
 have m2:(nm:Int)<=2:=by omega
 generalize hps:qA l nm=ps;have h8:=(bR l nm).2;have h6:=dX l nm m1 m2 hl;rw[hps]at h8 h6;have hnr:=lK (mods:=nm) (ps:=ps) (by omega) (fun p hp=>(h6 p hp).t6) ps.length;generalize hM:zAY nm ps=M;obtain⟨m0,hm0⟩:∃m0:Mk,m0={mods:=M,defs:=nP nm ps,l:=l,at_:=24,temp:=0,left:=0,own:=0,home:=Id.zero,name:=0}:=⟨_,rfl⟩;have hi0:BInv l nm 0 m0:=by rw[hm0];exact⟨by rw[hsV,hps];rfl,by rw[hps,hM],rfl,by simp,by simp,by simp,by simp⟩
 obtain⟨ms,b0,b1,b2⟩:=zN7 m1 m2 hl m0 hi0;rw[hps]at b1 b2;have hds0:(ms 0).defs=nP nm ps:=by rw[b0,hm0]
 have ht0:(ms 0).temp=0:=by rw[b0,hm0]
 have hlen:∀i≤ps.length,(ms i).defs.length=ps.length:=fun i hi=>by
  have:=congrArg List.length (b1 i hi).heads
  simpa[hps]using this
 have hslots:∀i≤ps.length,∀d∈(ms i).defs,d.slots.length<=6:=fun i hi d hd=>by obtain⟨j,hj,rfl⟩:=jAl hd;have:=xT m1 m2 hl (i:=j) (d:=(ms i).defs[j]) (by rw[<-(b1 i hi).heads,jBn,jA2 hj];rfl) 0;have h6:=this.2.2.1;rw[tD]at h6;exact h6
 obtain⟨c0,_,c2⟩:=zUM (fun i hi=>(b2 i hi).2) ps.length (jA _);rw[ht0]at c0 c2;have htn:=(b1 ps.length (jA _)).temp1;obtain⟨N,hNn⟩:∃N:Nat,(ms ps.length).temp=N:=⟨(ms ps.length).temp.toNat,by omega⟩;have hhd:=(b1 ps.length (jA _)).heads;have hbody:∀(k:Nat) (d:Dfn),(ms ps.length).defs[k]?=some d->(eU d=false/\d.body=Exp.zero)\/(eU d=true/\WT (hsV l nm) k (cC d) d.body d.res/\(tmps d.body).Nodup/\d.body.num0/\(tmps d.body).length<=32768/\∀c∈tmps d.body,0<=c/\c<N):=fun k d hd=>by
  have hk:=(jA5.1 hd).1;rw[hlen _ (jA _)]at hk;have hd0:(ms 0).defs[k]?=some (zDI nm (a8 nm ps k) k ps[k]):=by rw[hds0,jA2 (by simpa using hk),uR nm ps hk]
  rcases c2 k hk _ hd0 with ⟨h1,h2⟩|⟨h1,e,lo,h2,h3,h4⟩
  .rw[h2]at hd;cases hd;exact .inl ⟨h1,rfl⟩
  .rw[h2]at hd;cases hd;refine .inr ⟨h1,h3.wt,h3.seg.nd,h3.num,h3.len,fun c hc=>?_⟩;have:=h3.seg.rng c hc;omega
 have hunder:∀d∈(ms ps.length).defs,eU d=true->d.body.under N/\(∀c∈tmps d.body,0<=c/\c<N)/\(tmps d.body).length<=1000000:=fun d hd hbd=>by
  obtain⟨k,hk,rfl⟩:=jAl hd;have hg:(ms ps.length).defs[k]?=some (ms ps.length).defs[k]:=jA2 hk;rcases hbody k _ hg with ⟨h,_⟩|⟨_,h1,h2,h3,h4,h5⟩
  .rw[hbd]at h;cases h
  .refine⟨zRR h1 (fun b hb h0=>?_) h5 (by omega),h5,by omega⟩;have:=(xT m1 m2 hl (i:=k) (d:=(ms ps.length).defs[k]) (by rw[<-hhd,jBn,hg];rfl) 0).1.new b hb h0;exfalso;have hn:=(xT m1 m2 hl (i:=k) (d:=(ms ps.length).defs[k]) (by rw[<-hhd,jBn,hg];rfl) (b.id.c-0)).1.new b hb h0;omega
 have hnames:∀d∈(ms ps.length).defs,NmD d:=fun d hd=>by
  obtain⟨k,hk,rfl⟩:=jAl hd;have hk':=hk;rw[hlen _ (jA _)]at hk';have hd0:(ms 0).defs[k]?=some (zDI nm (a8 nm ps k) k ps[k]):=by rw[hds0,jA2 (by simpa using hk'),uR nm ps hk']
  have hq:NmD (zDI nm (a8 nm ps k) k ps[k]):=zKR (zHC l nm _ (by rw[hps];exact jA0 hk'));have hg:(ms ps.length).defs[k]?=some (ms ps.length).defs[k]:=jA2 hk;rcases c2 k hk' _ hd0 with ⟨h1,h2⟩|⟨h1,e,lo,h2,h3,h4⟩
  .rw[h2]at hg;rw[<-jAw hg];exact hq
  .rw[h2]at hg;rw[<-jAw hg];exact hq
 obtain⟨s,hs⟩:∃s:NSt,s=⟨(ms ps.length).defs,cR N,a8 nm ps ps.length⟩:=⟨_,rfl⟩;have hsd:s.ds=(ms ps.length).defs:=by rw[hs]
 have hsi:s.ids.length=N:=by rw[hs];simp[cR]
 have hsn:s.next=a8 nm ps ps.length:=by rw[hs]
 refine⟨⟨M,(cZ s ps.length).ds⟩,⟨by rw[hN,hps,hM],?_,?_,fun k=>(cZ s k).next,?_,fun k d hd=>?_⟩,?_⟩
 .rw[hN,zEr,hsd,hhd]
 .exact zEs s (by rw[hsd];exact hnames) ps.length
 .rw[hN,hps];exact hsn
 .rw[hN];have hk:=(jA5.1 hd).1;have hl1:=(tV s ps.length).1;rw[hsd,hlen _ (jA _)]at hl1;simp only at hk hd;rw[hl1]at hk;rw[zGs s ps.length hk]at hd;have hg:s.ds[k]?=some ((ms ps.length).defs[k]'(by rw[hlen _ (jA _)];exact hk)):=by rw[hsd];exact jA2 _
  have hst:=zBU s hg;have hcur:(cZ s k).ds[k]?=s.ds[k]?:=rO s k k (jA _);rw[hg]at hcur;have hil:=(tV s k).2;rw[hsi]at hil;have hb:=hbody k _ (jA2 (by rw[hlen _ (jA _)];exact hk));generalize (ms ps.length).defs[k]'(by rw[hlen _ (jA _)];exact hk)=d' at *
  dsimp only
  rw[hst]at hd ⊢;rcases hb with ⟨h1,h2⟩|⟨h1,h2,h3,h4,h5,h6⟩
  .rw[if_neg (by simp[h1])]at hd ⊢;rw[hcur]at hd;cases hd;exact .inl ⟨h1,h2,rfl⟩
  .rw[if_pos h1]at hd ⊢;simp only at hd ⊢;rw[jAm (jA5.1 hcur).1]at hd;cases hd;refine .inr ⟨h1,d'.body,_,⟨rfl,h2,h3,h4,h5,fun j hj=>?_⟩,rfl⟩;exact zKc _ _ _ h3 (fun x hx=>by rw[hil];exact h6 x hx) j hj
 .have hp6:∀p∈ps,p.types.length<=6:=fun p hp=>(h6 p hp).t6
  have hD:=qEt (ms ps.length) M (a8 nm ps ps.length) N hNn (by omega) (by omega) (by omega) (by rw[hlen _ (jA _)];omega) hunder;rw[<-hs,hlen _ (jA _)]at hD;have hC:=qEs l M ps.length (by omega) (a8 nm ps ps.length) m0 (by rw[hm0]) ms b0 hlen hslots (fun i hi=>(b2 i hi).1) ⟨M,(cZ s ps.length).ds⟩ (by rw[hlen _ (jA _)];exact hD);have hm0d:m0.defs=nP nm ps:=by rw[hm0]
  rw[hm0d]at hC;have hB:=qEr l hl nm hnm2 ps hps.symm ⟨M,(cZ s ps.length).ds⟩ (by rw[hM];exact hC);have ha:=dQ l 0 2 (by omega);have wn:IntKind.i64.wrap (1+atV l 0 2)=nm:=by rw[<-hnm];exact IntWalk.i64_in _ (by omega)
  refine zJ Tryz.func10 rfl qIz (rs:=[.cell 2 2 true]) (by kernel_rfl) ?_;unfold qAO;simp;refine mu ha (by simp) ?_;simp[wn];refine qH (S:=Nat) (fun i=>[(0,.sl l.length (y3 l)),(2,.ptr 0 0),(3,int nm),(4,.ptr 1 0),(5,int i)])
   (fun i=>[.box [.nil,.nil],.box [.row 2 i,.row 3 0],.row false 91 6 i (MC i),.row false 42 31 0 []]) (fun i=>i<=nm) (fun i=>nm-i) 0 (by simp)
   (((yI (l:=1) (o:=0) rfl rfl 91 6).trans (yI (l:=1) (o:=1) rfl rfl 42 31)).trans (mw [0,1,2,3] 0 (by rfl) (by simp[MC]))) ?_
  intro i hi;by_cases h:i<nm
  .have hi2:i=0\/i=1:=by omega
   have k0:=sE 0;have k1:=sE i;rcases hi2 with rfl|rfl
   .have k1':my 35 [int 0] [] (.agg (zX (idR 0))) []:=k0;simp[h,MC];refine b9 k1' (by simp) (by simp) ?_;simp[h,zX];refine⟨by simp[maxLen],?_⟩;exact zN 1 h (by omega) (mw [0,1,2,3] 0 (by rfl) (by simp[MC,m0C,show IntKind.i64.wrap 1=1 by decide]))
   .have hn2:nm=2:=by omega
    subst hn2;have k1':my 35 [int 1] [] (.agg (zX (idR 1))) []:=sE 1;simp[MC];refine b9 k1' (by simp) (by simp) ?_;simp[zX];refine mu k0 (by simp) ?_;simp[zX];refine⟨by simp[maxLen],?_⟩;exact zN 2 (by omega) (by omega) (mw [0,1,2,3] 0 (by rfl) (by simp[MC,m0C,m1C,zX,show IntKind.i64.wrap 2=2 by decide]))
  .have hie:i=nm:=by omega
   subst hie;simp;exact⟨_,_,kf [0,1,2,3] 0 (by rfl) (by rcases hnm2 with rfl|rfl<;>simp[MC,m0C,m1C,zX]) (by simp),hB⟩
inductive TyV(p:Prg):Typ->Val->Prop
 |int (n:Int) (h1 : -1099511627776<=n) (h2:n<=1099511627776):TyV p jI (.mk 0 n [])
 |bool (n:Int) (h:n=0\/n=1):TyV p jV (.mk 1 n [])
 |list (t:Typ) (vs:List Val) (h:∀v∈vs,TyV p t v):TyV p (jP t) (.mk 4 0 vs)
 |record (id:Id) (d:Dfn) (vs:List Val) (hd:qM p.defs id=some d) (hk:d.kind=0) (hl:vs.length=d.slots.length) (h:∀(j:Nat) (hj:j<vs.length),TyV p (d.slots[j]'(hl▸hj)).typ vs[j]):TyV p (dP id) (.mk 2 0 vs)
 |case (id:Id) (d:Dfn) (n:Nat) (v:Val) (hd:qM p.defs id=some d) (hk:d.kind=1) (hn:n<d.slots.length) (h:TyV p d.slots[n].typ v):TyV p (dP id) (.mk 3 n [v])
variable{p:Prg}{v:Val}
theorem TyV.int_inv(h:TyV p jI v):∃n:Int,v=.mk 0 n []/\-1099511627776<=n/\n<=1099511627776:=by
 generalize ht:jI=t at h;cases h with
 |int n h1 h2=>exact⟨n,rfl,h1,h2⟩
 |_=>simp at ht
theorem TyV.bool_inv(h:TyV p jV v):∃n:Int,v=.mk 1 n []/\(n=0\/n=1):=by
 generalize ht:jV=t at h;cases h with
 |bool n h=>exact⟨n,rfl,h⟩
 |_=>simp at ht
theorem TyV.list_inv{u:Typ}(h:TyV p (jP u) v):∃vs:wI,v=.mk 4 0 vs/\∀x∈vs,TyV p u x:=by
 generalize ht:jP u=t at h;cases h with
 |list t vs h =>
  simp only[Typ.mk.injEq,jBd,and_true,true_and]at ht;subst ht;exact⟨vs,rfl,h⟩
 |_=>simp at ht
theorem TyV.def_inv{r:Id}{d:Dfn}(hd:qM p.defs r=some d)(h:TyV p (dP r) v) :
 (d.kind=0/\∃(vs:wI) (hl:vs.length=d.slots.length),v=.mk 2 0 vs/\∀(j:Nat) (hj:j<vs.length),TyV p (d.slots[j]'(hl▸hj)).typ vs[j]) \/
 (d.kind=1/\∃(n:Nat) (x:Val) (hn:n<d.slots.length),v=.mk 3 n [x]/\TyV p d.slots[n].typ x):=by
 generalize ht:dP r=t at h;cases h with
 |record id d' vs hd' hk hl h =>
  simp only[Typ.mk.injEq,and_true,true_and]at ht;subst ht;rw[hd]at hd';cases hd';exact .inl ⟨hk,vs,hl,rfl,h⟩
 |case id d' n x hd' hk hn h =>
  simp only[Typ.mk.injEq,and_true,true_and]at ht;subst ht;rw[hd]at hd';cases hd';exact .inr ⟨hk,n,x,hn,rfl,h⟩
 |_=>simp at ht
inductive TyL(p:Prg):List Typ->List Val->Prop
 |nil:TyL p [] []
 |cons (t:Typ) (ts:List Typ) (v:Val) (vs:List Val) (h:TyV p t v) (hs:TyL p ts vs):TyL p (t::ts) (v::vs)
variable{ts:wT}{vs:wI}
theorem TyL.len(h:TyL p ts vs):vs.length=ts.length:=by
 induction h with
 |nil=>rfl
 |cons _ _ _ _ _ _ ih=>simp[ih]
theorem TyL.get(h:TyL p ts vs):∀(j:Nat) (hj:j<vs.length) (hj':j<ts.length),TyV p ts[j] vs[j]:=by
 induction h with
 |nil=>intro j hj;simp at hj
 |cons t ts v vs h hs ih =>
  intro j hj hj';cases j with
  |zero=>exact h
  |succ j=>exact ih j (by simpa using hj) (by simpa using hj')
theorem TyL.of{p:Prg}:∀{ts:wT} {vs:wI} (hl:vs.length=ts.length) (_:∀(j:Nat) (hj:j<vs.length),TyV p (ts[j]'(hl▸hj)) vs[j]),TyL p ts vs
 |[],[],_,_=>.nil
 |t::ts,v::vs,hl,h=>.cons t ts v vs (h 0 (by simp)) (TyL.of (by simpa using hl) fun j hj=>h (j+1) (by simpa using hj))
 |[],v::vs,hl,_=>by simp at hl
 |t::ts,[],hl,_=>by simp at hl
inductive OpT:Int->List Typ->Typ->Prop
 |arith (n:Int) (h1:0<=n) (h2:n<=4):OpT n [jI,jI] jI
 |less:OpT 5 [jI,jI] jV
 |same (u:Typ):OpT 6 [u,u] jV
 |andor (n:Int) (h:n=7\/n=8):OpT n [jV,jV] jV
 |not:OpT 9 [jV] jV
 |join (t:Typ):OpT 10 [jP t,jP t] (jP t)
 |len (t:Typ):OpT 11 [jP t] jI
theorem TyL.one(h:TyL p [t] vs):∃a,vs=[a]/\TyV p t a:=by
 cases h with
 |cons _ _ v vs h hs=>cases hs;exact⟨v,rfl,h⟩
theorem TyL.two{u:Typ}(h:TyL p [t,u] vs):∃a b,vs=[a,b]/\TyV p t a/\TyV p u b:=by
 cases h with
 |cons _ _ v vs h hs =>
  obtain⟨b,rfl,hb⟩:=hs.one;exact⟨v,b,rfl,h,hb⟩
theorem zBt(b:Bool):TyV p jV (fM b):=.bool _ (by cases b<;>simp)
theorem sW(n:Int) : -1099511627776<=eL n/\eL n<=1099511627776:=by
 unfold eL;split
 .omega
 .split<;>omega
variable{a b:Int}
theorem zNn(h1 : -1099511627776<=a)(h2:a<=1099511627776) : -1099511627776<=a.tdiv b/\a.tdiv b<=1099511627776:=by have h:=Int.natAbs_tdiv_le_natAbs a b;omega
theorem zPb(h1 : -1099511627776<=a)(h2:a<=1099511627776)(hm:a.tmod b≠0)(hb:b≠0) : -1099511627775<=a.tdiv b:=by
 have hn:a.natAbs / b.natAbs=(a.tdiv b).natAbs:=by rw[Int.natAbs_tdiv];rfl
 have hb2:2<=b.natAbs:=by
  rcases jAz b.natAbs 2 with h|h
  .exfalso;have:b=1\/b = -1:=by omega
   rcases this with rfl|rfl
   .simp at hm
   .exact hm (by rw[Int.tmod_neg,Int.tmod_one])
  .exact h
 have:a.natAbs / b.natAbs<=a.natAbs / 2:=Nat.div_le_div_left hb2 (by omega);omega
theorem zKU(b:Int)(h1 : -1099511627776<=a)(h2:a<=1099511627776) : -1099511627776<=zBG a b/\zBG a b<=1099511627776:=by
 unfold zBG;have h:=zNn (b:=b) h1 h2;split
 .omega
 .rename_i hb;split
  .rename_i hc;have:=zPb h1 h2 hc.1 hb;omega
  .omega
theorem zTC(a b:Int):zHF a b=if b=0 then 0 else if a.tmod b≠0/\¬(a<0↔b<0)then a.tmod b+b else a.tmod b:=by
 unfold zHF zBG;by_cases hb:b=0
 .simp[hb]
 .rw[if_neg hb,if_neg hb,if_neg hb];have:=Int.mul_tdiv_add_tmod a b;split
  .rw[Int.mul_sub];omega
  .omega
theorem zEE(h1 : -1099511627776<=b)(h2:b<=1099511627776) : -1099511627776<=zHF a b/\zHF a b<=1099511627776:=by
 rw[zTC];by_cases hb:b=0
 .simp[hb]
 .rw[if_neg hb];have h3:(a.tmod b).natAbs<b.natAbs:=by rw[Int.natAbs_tmod];exact Nat.mod_lt _ (by omega)
  have h4:0<=a->0<=a.tmod b:=jDm b;have h5:a<0->a.tmod b<=0:=fun h=>by have:=jDm (a:=-a) b (by omega);rw[Int.neg_tmod]at this;omega
  split<;>omega
theorem zLA{n a b:Int}(a1 : -1099511627776<=a)(a2:a<=1099511627776)(b1 : -1099511627776<=b)(b2:b<=1099511627776) : -1099511627776<=zF7 n a b/\zF7 n a b<=1099511627776:=by
 unfold zF7;split
 .exact sW _
 .split
  .exact sW _
  .split
   .exact sW _
   .split
    .exact zKU b a1 a2
    .exact zEE b1 b2
theorem nB:∀(l:wI),l.length<=jK l
 |[]=>by simp[jK]
 | .mk _ _ l'::l=>by have:=nB l;simp only[jAb,jK,qU];omega
theorem zQT(h:qU v<=256):v.kids.length<=255:=by
 cases v with
 |mk k n l =>
  have:=nB l;simp only[qU]at h;simp only[Val.kids];omega
theorem qEf{n:Int}(h:OpT n ts t)(hv:TyL p ts vs)(hs:∀v∈vs,qU v<=256):TyV p t (opV n vs)/\qU (opV n vs)<=1000:=by
 cases h with
 |arith n h1 h2 =>
  obtain⟨a,b,rfl,ha,hb⟩:=hv.two;obtain⟨x,rfl,x1,x2⟩:=ha.int_inv;obtain⟨y,rfl,y1,y2⟩:=hb.int_inv;simp only[opV,if_pos h2];have:=zLA (n:=n) x1 x2 y1 y2;exact⟨.int _ this.1 this.2,by simp[qU,jK]⟩
 |less =>
  obtain⟨a,b,rfl,ha,hb⟩:=hv.two;exact⟨zBt _,by simp[opV,fM,qU,jK]⟩
 |same u =>
  obtain⟨a,b,rfl,ha,hb⟩:=hv.two;exact⟨zBt _,by simp[opV,fM,qU,jK]⟩
 |andor n h =>
  obtain⟨a,b,rfl,ha,hb⟩:=hv.two;rcases h with rfl|rfl<;>exact⟨zBt _,by simp[opV,fM,qU,jK]⟩
 |not =>
  obtain⟨a,rfl,ha⟩:=hv.one;exact⟨zBt _,by simp[opV,fM,qU,jK]⟩
 |join t =>
  obtain⟨a,b,rfl,ha,hb⟩:=hv.two;obtain⟨x,rfl,hx⟩:=ha.list_inv;obtain⟨y,rfl,hy⟩:=hb.list_inv;refine⟨.list _ _ fun v hv=>?_,?_⟩
  .rcases jA6.1 hv with h|h
   .exact hx v h
   .exact hy v h
  .have h1:=hs (.mk 4 0 x) (by simp);have h2:=hs (.mk 4 0 y) (by simp);simp only[qU]at h1 h2;simp[opV,Val.kids,qU,fS];omega
 |len t =>
  obtain⟨a,rfl,ha⟩:=hv.one;have:=zQT (hs a (by simp));exact⟨.int _ (by omega) (by omega),by simp[opV,qU,jK]⟩
inductive WE(p:Prg):List Bnd->Exp->Typ->Prop
 |int (env i n r u ns) (h1 : -1099511627776<=n) (h2:n<=1099511627776):WE p env (.mk i 0 n r u [] ns) jI
 |bool (env i n r u ns) (h:n=0\/n=1):WE p env (.mk i 1 n r u [] ns) jV
 |var (env i n r u ns t) (h:fG env r n=some t):WE p env (.mk i 2 n r u [] ns) t
 |call (env i n r u ks ns) (hn:ks.length<=32768) (d:Dfn) (hd:qM p.defs r=some d) (hk:d.kind=2) (hl:ks.length=(d.slots.map Slt.typ).length) (hw:∀(j:Nat) (hj:j<ks.length),WE p env ks[j] ((d.slots.map Slt.typ)[j]'(hl▸hj))) :
  WE p env (.mk i 3 n r u ks ns) d.res
 |op (env i n r u ks ns) (hn:ks.length<=32768) (ts:List Typ) (t:Typ) (ho:OpT n ts t) (hl:ks.length=ts.length) (hw:∀(j:Nat) (hj:j<ks.length),WE p env ks[j] (ts[j]'(hl▸hj))):WE p env (.mk i 4 n r u ks ns) t
 |ite (env i n r u a b c ns t) (ha:WE p env a jV) (hb:WE p env b t) (hc:WE p env c t):WE p env (.mk i 5 n r u [a,b,c] ns) t
 |lets (env i n r u a b ns v t) (hf:∀x∈env,x.id≠i) (ha:WE p env a v) (hb:WE p (env++[⟨i,0,v⟩]) b t):WE p env (.mk i 6 n r u [a,b] ns) t
 |record (env i n r u ks ns) (hn:ks.length<=32768) (d:Dfn) (hd:qM p.defs r=some d) (hk:d.kind=0) (hl:ks.length=(d.slots.map Slt.typ).length) (hw:∀(j:Nat) (hj:j<ks.length),WE p env ks[j] ((d.slots.map Slt.typ)[j]'(hl▸hj))) :
  WE p env (.mk i 7 n r u ks ns) (dP r)
 |field (env i r u a ns) (d:Dfn) (j:Nat) (hd:qM p.defs r=some d) (hk:d.kind=0) (hj:j<d.slots.length) (ha:WE p env a (dP r)):WE p env (.mk i 8 j r u [a] ns) d.slots[j].typ
 |case (env i r u a ns) (d:Dfn) (j:Nat) (hd:qM p.defs r=some d) (hk:d.kind=1) (hj:j<d.slots.length) (ha:WE p env a d.slots[j].typ):WE p env (.mk i 9 j r u [a] ns) (dP r)
 |mtch (env i n r u a ks ns) (d:Dfn) (t:Typ) (hf:∀x∈env,x.id≠i) (hd:qM p.defs r=some d) (hk:d.kind=1) (hl:ks.length=d.slots.length) (ha:WE p env a (dP r))
  (hw:∀(j:Nat) (hj:j<ks.length),WE p (env++[⟨i,j,(d.slots[j]'(hl▸hj)).typ⟩]) ks[j] t):WE p env (.mk i 10 n r u (a::ks) ns) t
 |list (env i n r u ks ns t) (hn:ks.length<=32768) (hw:∀(j:Nat) (hj:j<ks.length),WE p env ks[j] t):WE p env (.mk i 11 n r u ks ns) (jP t)
 |fold (env i n r u l s b ns v t) (hf:∀x∈env,x.id≠i) (hl:WE p env l (jP v)) (hs:WE p env s t) (hb:WE p (env++[⟨i,0,v⟩]++[⟨i,1,t⟩]) b t):WE p env (.mk i 12 n r u [l,s,b] ns) t
theorem rL(B:wJ)(b:Bnd)(x:Id)(n:Int):fG (B++[b]) x n=if b.id=x/\b.n=n then some b.typ else fG B x n:=by
 unfold fG;rw[List.reverse_append,List.reverse_singleton,jCj,jC5];by_cases h1:b.id=x
 .by_cases h2:b.n=n<;>simp[h1,h2]
 .simp[h1]
inductive EnvT(p:Prg):List Bnd->List EVar->Prop
 |nil:EnvT p [] []
 |snoc (B:List Bnd) (V:List EVar) (b:Bnd) (v:EVar) (h:EnvT p B V) (hi:v.id=b.id) (hn:v.n=b.n) (ht:TyV p b.typ v.v) (hz:qU v.v<=256):EnvT p (B++[b]) (V++[v])
variable{V:wP}
theorem EnvT.find{B:wJ}(h:EnvT p B V){x:Id}{n:Int}:fG B x n=some t->TyV p t (vT V x n)/\qU (vT V x n)<=256:=by
 induction h with
 |nil=>intro h;simp[fG]at h
 |snoc B V b v h hi hn ht hz ih =>
  rw[rL,zDU,hi,hn];split
  .intro e;cases e;exact⟨ht,hz⟩
  .exact ih
theorem EnvT.push{B:wJ}(h:EnvT p B V){i:Id}{n:Int}(ht:TyV p t v/\qU v<=256):EnvT p (B++[⟨i,n,t⟩]) (V++[⟨i,n,v⟩]):=.snoc _ _ _ _ h rfl rfl ht.1 ht.2
theorem EnvT.len{B:wJ}(h:EnvT p B V):V.length=B.length:=by
 induction h with
 |nil=>rfl
 |snoc _ _ _ _ _ _ _ _ _ ih=>simp[ih]
theorem EnvT.ids{B:wJ}(h:EnvT p B V){i:Id}:(∀b∈B,b.id≠i)->∀v∈V,v.id≠i:=by
 induction h with
 |nil=>simp
 |snoc B V b v h hi hn ht hz ih =>
  intro hb x hx;rcases jA6.1 hx with hx|hx
  .exact ih (fun y hy=>hb y (jBq _ hy)) x hx
  .rw[jAk.1 hx,hi];exact hb b (by simp)
theorem EnvT.args:∀{ss:List Slt} {vs:wI},TyL p (ss.map Slt.typ) vs->(∀v∈vs,qU v<=256)->EnvT p (ss.map fun s=>⟨s.id,0,s.typ⟩) (iK ss vs):=by
 intro ss;induction ss using eI with
 |nil =>
  intro vs h _;cases h;exact .nil
 |snoc ss s ih =>
  intro vs h hz;have hl:=h.len;simp only[jAa,jA4,jAn]at hl;obtain⟨ws,w,rfl⟩:∃ws w,vs=ws++[w]:=⟨vs.dropLast,vs.getLast (fun e=>by rw[e]at hl;simp at hl),(List.dropLast_concat_getLast _).symm⟩;simp only[jA4,jAn]at hl;have h1:TyL p (ss.map Slt.typ) ws:=TyL.of (by simp;omega) fun j hj=>by have:=h.get j (by simp;omega) (by simp;omega);rw[jCu hj]at this;rw[jB5]at this ⊢;rw[jCu (by omega)]at this;exact this
  have h2:TyV p s.typ w:=by
   have:=h.get ss.length (by simp;omega) (by simp);rw[jCk (by omega)]at this
   simpa[show ss.length-ws.length=0 by omega]using this
  have e:iK (ss++[s]) (ws++[w])=iK ss ws++[⟨s.id,0,w⟩]:=by unfold iK;rw[List.zipWith_append (by omega)];rfl
  rw[e,jBh];exact(ih h1 fun v hv=>hz v (jBq _ hv)).push ⟨h2,hz w (by simp)⟩
def zPn(p:Prg):Prop:=∀(r:Id) (d:Dfn),qM p.defs r=some d->eU d=true->WE p (cC d) d.body d.res
section
variable{p:Prg}{ev:Evl}
def zId(ev:Evl):Prop:=∀e V s,s.fail≠0->ev e V s=(vz,s)
def Snd(p:Prg)(ev:Evl):Prop:=∀e B V s t,WE p B e t->EnvT p B V->(ev e V s).2.fail=0->TyV p t (ev e V s).1/\qU (ev e V s).1<=256
theorem zFF(h:zId ev)(V:wP):∀(l:wH) (s:XS),s.fail≠0->(jQ ev V l s).2=s
 |[],s,_=>rfl
 |e::l,s,hs=>by simp only[jQ,h e V s hs];exact zFF h V l s hs
variable{s:XS}
theorem zSk(h:zId ev){V:wP}{e:Exp}{l:wH}(hs:(jQ ev V (e::l) s).2.fail=0):(ev e V s).2.fail=0:=by
 by_cases hf:(ev e V s).2.fail=0
 .exact hf
 .simp only[jQ]at hs;rw[zFF h V l _ hf]at hs;exact hs
theorem zEc(h:zId ev)(V:wP)(i:Id)(b:Exp):∀(l:wI) (r:Val×XS),r.2.fail≠0->(aN ev V i b l r).2=r.2
 |[],r,_=>rfl
 |x::l,r,hs=>by simp only[aN,h _ _ _ hs];exact zEc h V i b l _ hs
theorem pO(h:zId ev)(k:Snd p ev){B:wJ}{V:wP}(hV:EnvT p B V):∀(l:wH) (ts:wT) (s:XS) (hl:l.length=ts.length),(∀(j:Nat) (hj:j<l.length),WE p B l[j] (ts[j]'(hl▸hj))) ->
 (jQ ev V l s).2.fail=0->TyL p ts (jQ ev V l s).1/\∀v∈(jQ ev V l s).1,qU v<=256
 |[],[],s,_,_,_=>⟨.nil,by simp[jQ]⟩
 |[],t::ts,s,hl,_,_=>by simp at hl
 |e::l,[],s,hl,_,_=>by simp at hl
 |e::l,t::ts,s,hl,hw,hs=>by
  have h1:=k e B V s t (hw 0 (by simp)) hV (zSk h hs);have h2:=pO h k hV l ts (ev e V s).2 (by simpa using hl) (fun j hj=>hw (j+1) (by simpa using hj)) (by simpa only[jQ]using hs);simp only[jQ];refine⟨.cons _ _ _ _ h1.1 h2.1,fun v hv=>?_⟩;rcases jA3.1 hv with rfl|hv
  .exact h1.2
  .exact h2.2 v hv
theorem zEd(h:zId ev)(k:Snd p ev){B:wJ}{V:wP}(hV:EnvT p B V){i:Id}{b:Exp}{u t:Typ}(hb:WE p (B++[⟨i,0,u⟩]++[⟨i,1,t⟩]) b t):∀(l:wI) (r:Val×XS),(∀x∈l,TyV p u x/\qU x<=256) ->
 (r.2.fail=0->TyV p t r.1/\qU r.1<=256)->(aN ev V i b l r).2.fail=0->TyV p t (aN ev V i b l r).1/\qU (aN ev V i b l r).1<=256
 |[],r,_,hr,hs=>hr hs
 |x::l,r,hl,hr,hs=>by
  simp only[aN]at hs ⊢;have h0:r.2.fail=0:=by
   by_cases hf:r.2.fail=0
   .exact hf
   .have e:=zEc h V i b l (vz,r.2) hf;rw[h _ _ _ hf,e]at hs;exact hs
  exact zEd h k hV hb l _ (fun y hy=>hl y (jAi _ hy)) (fun hf=>k b _ _ _ t hb ((hV.push (hl x (by simp))).push (hr h0)) hf) hs
variable{v:Val}
theorem zBy{c:Bool}(h:s.fail=0):zf c s v=v:=by simp[zf,h]
theorem zRA(h:qU v<=10000000)(hb:¬zN2 v):qU v<=256:=by have h1:=zGD v (by omega);unfold zN2 at hb;omega
theorem oW{x:Val}(h:qU v<=256)(hx:x∈v.kids):qU x<=256:=by have:=dY hx;omega
theorem zKh{l:wI}(h:∀v∈l,qU v<=256)(hl:l.length<=32768):jK l<=8388608:=by have:=zOW h;have:l.length*256<=32768*256:=jBj _ hl;omega
theorem up{t:Typ}(h:TyV p t v/\qU v<=256):TyV p t v/\qU v<=10000000:=⟨h.1,by omega⟩
theorem zRT(hp:zPn p)(fl:Nat)(h:zId ev)(k:Snd p ev){e:Exp}{B:wJ}{V:wP}{t:Typ}(he:WE p B e t)(hV:EnvT p B V)(hs:(qP p fl ev e V s).2.fail=0):TyV p t (qP p fl ev e V s).1/\qU (qP p fl ev e V s).1<=10000000:=by
 cases he with
 |int _ i n r u ns h1 h2=>exact⟨.int n h1 h2,by simp[qP,qU,jK]⟩
 |bool _ i n r u ns h=>exact⟨.bool n h,by simp[qP,qU,jK]⟩
 |var _ i n r u ns _ h =>
  have:=hV.find h;exact⟨this.1,by simp only[qP];simp;omega⟩
 |call _ i n r u ks ns hn d hd hk hl hw =>
  have e:qP p fl ev (.mk i 3 n r u ks ns) V s=dR ev d (jQ ev V ks s).1 (jQ ev V ks s).2:=by simp[qP,dfn,hd]
  rw[e]at hs ⊢;unfold dR at hs ⊢;by_cases hf:(jQ ev V ks s).2.fail=0
  .rw[if_neg (by simp[hf])]at hs ⊢;have ha:=pO h k hV ks _ s hl hw hf;exact up (k _ _ _ _ _ (hp r d hd (by simp[eU,hk])) (EnvT.args ha.1 ha.2) hs)
  .rw[if_pos hf]at hs;exact(hf hs).elim
 |op _ i n r u ks ns hn ts _ ho hl hw =>
  have e:qP p fl ev (.mk i 4 n r u ks ns) V s=(zf true (jQ ev V ks s).2 (opV n (jQ ev V ks s).1),(jQ ev V ks s).2):=by simp[qP]
  rw[e]at hs ⊢;have ha:=pO h k hV ks _ s hl hw hs;rw[zBy hs];have:=qEf ho ha.1 ha.2;exact⟨this.1,by simp only;omega⟩
 |record _ i n r u ks ns hn d hd hk hl hw =>
  have e:qP p fl ev (.mk i 7 n r u ks ns) V s=(zf (fl==1) (jQ ev V ks s).2 (.mk 2 0 (jQ ev V ks s).1),(jQ ev V ks s).2):=by simp[qP]
  rw[e]at hs ⊢;obtain⟨ha,hz⟩:=pO h k hV ks _ s hl hw hs;rw[zBy hs];have hlen:=ha.len;rw[jAa]at hlen;refine⟨.record _ d _ hd hk hlen fun j hj=>?_,by have:=zKh hz (by rw[zA1];exact hn);simp only[qU];omega⟩;have:=ha.get j hj (by rw[jAa];omega)
  rwa[jB5]at this
 |case _ i r u a ns d j hd hk hj ha =>
  have e:qP p fl ev (.mk i 9 j r u [a] ns) V s=(zf (fl==1) (ev a V s).2 (.mk 3 j [(ev a V s).1]),(ev a V s).2):=by simp[qP,jQ]
  rw[e]at hs ⊢;rw[zBy hs];have:=k a B V s _ ha hV hs;exact⟨.case _ d j _ hd hk hj this.1,by simp only[qU,jK];omega⟩
 |list _ i n r u ks ns t hn hw =>
  have e:qP p fl ev (.mk i 11 n r u ks ns) V s=(zf (fl==1) (jQ ev V ks s).2 (.mk 4 0 (jQ ev V ks s).1),(jQ ev V ks s).2):=by simp[qP]
  rw[e]at hs ⊢;obtain⟨ha,hz⟩:=pO h k hV ks (List.replicate ks.length t) s (by simp) (fun j hj=>by rw[List.getElem_replicate];exact hw j hj) hs;rw[zBy hs];refine⟨.list _ _ fun v hv=>?_,by have:=zKh hz (by rw[zA1];exact hn);simp only[qU];omega⟩;obtain⟨j,hj,rfl⟩:=jAl hv;have:=ha.get j hj (by rw[<-ha.len];exact hj)
  rwa[List.getElem_replicate]at this
 |ite _ i n r u a b c ns _ ha hb hc =>
  have e:qP p fl ev (.mk i 5 n r u [a,b,c] ns) V s=if (ev a V s).2.fail≠0 then (vz,(ev a V s).2)else ev ([a,b,c].getD (if (ev a V s).1.n=1 then 1 else 2) .zero) V (ev a V s).2:=by simp[qP,jO]
  rw[e]at hs ⊢;by_cases hf:(ev a V s).2.fail=0
  .rw[if_neg (by simp[hf])]at hs ⊢;by_cases hn:(ev a V s).1.n=1
   .simp only[if_pos hn]at hs ⊢;exact up (k b B V _ _ hb hV hs)
   .simp only[if_neg hn]at hs ⊢;exact up (k c B V _ _ hc hV hs)
  .rw[if_pos hf]at hs;exact(hf hs).elim
 |lets _ i n r u a b ns v _ hfr ha hb =>
  have e:qP p fl ev (.mk i 6 n r u [a,b] ns) V s=if (ev a V s).2.fail≠0 then (vz,(ev a V s).2)else ev b (V++[⟨i,0,(ev a V s).1⟩]) (ev a V s).2:=by simp[qP,jO]
  rw[e]at hs ⊢;by_cases hf:(ev a V s).2.fail=0
  .rw[if_neg (by simp[hf])]at hs ⊢;exact up (k b _ _ _ _ hb (hV.push (k a B V s _ ha hV hf)) hs)
  .rw[if_pos hf]at hs;exact(hf hs).elim
 |field _ i r u a ns d j hd hk hj ha =>
  have e:qP p fl ev (.mk i 8 j r u [a] ns) V s=if (ev a V s).2.fail≠0 then (vz,(ev a V s).2)else ((ev a V s).1.kids.getD j vz,(ev a V s).2):=by simp[qP,jO]
  rw[e]at hs ⊢;by_cases hf:(ev a V s).2.fail=0
  .rw[if_neg (by simp[hf])]at hs ⊢;obtain⟨hty,hz⟩:=k a B V s _ ha hV hf;rcases hty.def_inv hd with ⟨_,vs,hl,h1,h2⟩|⟨h1,_⟩
   .rw[h1]at hz ⊢;have hjl:j<vs.length:=by omega
    simp only[Val.kids,jBz,jA2 hjl,jCn];exact up ⟨h2 j hjl,oW hz (jA0 hjl)⟩
   .omega
  .rw[if_pos hf]at hs;exact(hf hs).elim
 |mtch _ i n r u a ks ns d _ hfr hd hk hl ha hw =>
  have e:qP p fl ev (.mk i 10 n r u (a::ks) ns) V s=if (ev a V s).2.fail≠0 then (vz,(ev a V s).2)else ev ((a::ks).getD (1+(ev a V s).1.n).toNat .zero) (V++[⟨i,(ev a V s).1.n,(ev a V s).1.kids.headD vz⟩]) (ev a V s).2:=by simp[qP,jO]
  rw[e]at hs ⊢;by_cases hf:(ev a V s).2.fail=0
  .rw[if_neg (by simp[hf])]at hs ⊢;obtain⟨hty,hz⟩:=k a B V s _ ha hV hf;rcases hty.def_inv hd with ⟨h1,_⟩|⟨_,m,x,hm,h1,h2⟩
   .omega
   .have hmk:m<ks.length:=by omega
    have e2:(1+(m:Int)).toNat=m+1:=by omega
    rw[h1]at hs hz ⊢;simp only[Val.n,Val.kids,jD0,e2,List.getD_cons_succ,jBz,jBi,jA2 hmk,jCn]at hs ⊢;exact up (k _ _ _ _ _ (hw m hmk) (hV.push ⟨h2,oW hz (by simp[Val.kids])⟩) hs)
  .rw[if_pos hf]at hs;exact(hf hs).elim
 |fold _ i n r u l s' b ns v _ hfr hl' hs' hb =>
  have e:qP p fl ev (.mk i 12 n r u [l,s',b] ns) V s=if (ev l V s).2.fail≠0 then (vz,(ev l V s).2)else aN ev V i b (ev l V s).1.kids (ev s' V (ev l V s).2):=by simp[qP,jO]
  rw[e]at hs ⊢;by_cases hf:(ev l V s).2.fail=0
  .rw[if_neg (by simp[hf])]at hs ⊢;obtain⟨hty,hz⟩:=k l B V s _ hl' hV hf;obtain⟨vs,h1,h2⟩:=hty.list_inv;rw[h1]at hs hz ⊢;exact up (zEd h k hV hb vs _ (fun x hx=>⟨h2 x hx,oW hz hx⟩) (fun hg=>k s' B V _ _ hs' hV hg) hs)
  .rw[if_pos hf]at hs;exact(hf hs).elim
theorem zAb(p:Prg)(fl:Nat):∀m,zId (bD p fl m)
 | 0=>fun e V s h=>by rw[bD,if_pos h]
 |m+1=>fun e V s h=>by rw[bD,if_pos h]
theorem zEx(hp:zPn p)(fl:Nat):∀m,Snd p (bD p fl m)
 | 0=>fun e B V s t he hV hs=>by
  rw[bD]at hs;split at hs
  .rename_i h;exact(h hs).elim
  .simp[zI6]at hs
 |m+1=>fun e B V s t he hV hs=>by
  rw[bD]at hs ⊢;split at hs
  .rename_i h;exact(h hs).elim
  .split at hs
   .simp[zI6]at hs
   .rename_i h1 h2;rw[if_neg h1,if_neg h2];simp only[zQw]at hs ⊢;have hk:oZ (qP p fl (bD p fl m) e V (gH e s))=(qP p fl (bD p fl m) e V (gH e s)).2/\(qP p fl (bD p fl m) e V (gH e s)).2.fail=0/\¬zN2 (qP p fl (bD p fl m) e V (gH e s)).1:=by
     unfold oZ at hs ⊢;split at hs
     .simp[zBH]at hs
     .rename_i h3;rw[if_neg h3];exact⟨rfl,hs,fun hb=>h3 ⟨hs,hb⟩⟩
    rw[zBy hs];have:=zRT hp fl (zAb p fl m) (zEx hp fl m) he hV hk.2.1;exact⟨this.1,zRA this.2 hk.2.2⟩
end
mutual
def Exp.nice:Exp->Prop
 | .mk _ k _ _ _ ks ns=>(k=5->ks.length=3)/\ns.length<=10/\bC ks
def bC:List Exp->Prop
 |[]=>True
 |e::l=>e.nice/\bC l
end
theorem mO:∀l:wH,bC l↔∀e∈l,e.nice
 |[]=>by simp[bC]
 |e::l=>by simp[bC,mO l]
theorem qDM(e:Exp):e.nice↔(e.k=5->e.kids.length=3)/\e.names.length<=10/\∀k∈e.kids,k.nice:=by cases e;simp only[Exp.nice,mO,Exp.k_mk,Exp.kids_mk,Exp.names_mk]
theorem zOA:Exp.zero.nice:=by simp[Exp.zero,Exp.nice,bC]
mutual
theorem zMO:∀(e:Exp),e.nice->zGP e
 | .mk i k n r t ks ns,h=>by
  intro z hz hk;simp only[Exp.nice]at h;simp only[aB]at hz;rcases jA3.1 hz with rfl|hz
  .exact h.1 hk
  .exact zJ0 ks h.2.2 z hz hk
theorem zJ0:∀(l:wH),bC l->∀z∈yR l,z.k=5->z.kids.length=3
 |[],_,z,hz,_=>by simp[yR]at hz
 |e::l,h,z,hz,hk=>by
  simp only[yR,jA6]at hz;rcases hz with hz|hz
  .exact zMO e h.1 z hz hk
  .exact zJ0 l h.2 z hz hk
end
mutual
theorem zJL(f:Int->Id):∀(e:Exp),e.nice->(fK f e).nice/\(tmps (fK f e)).length=(tmps e).length
 | .mk i k n r t ks ns,h=>by simp only[Exp.nice]at h;have:=zG6 f ks h.2.2;simp only[fK,Exp.nice,tmps,jA4,jAn,this.2.1,this.2.2];exact⟨⟨h.1,h.2.1,this.1⟩,trivial⟩
theorem zG6(f:Int->Id):∀(l:wH),bC l->bC (zBk f l)/\(jG (zBk f l)).length=(jG l).length/\(zBk f l).length=l.length
 |[],_=>⟨trivial,rfl,rfl⟩
 |e::l,h=>by have h1:=zJL f e h.1;have h2:=zG6 f l h.2;simp only[zBk,bC,jG,jA4,jAb,h1.2,h2.2.1,h2.2.2,and_true];exact⟨h1.1,h2.1⟩
end
theorem zKq(h:e.nice)(x:Int):(yP e x).nice/\(tmps (yP e x)).length=(tmps e).length:=by
 have hN:∀n,(twN e n).nice/\(tmps (twN e n)).length=(tmps e).length:=fun n=>by cases e;simp only[Exp.nice]at h;simp only[twN,Exp.nice,Exp.id_mk,Exp.k_mk,Exp.ref_mk,Exp.typ_mk,Exp.kids_mk,Exp.names_mk,tmps];exact⟨h,trivial⟩
 unfold yP;split
 .exact hN _
 .split
  .exact hN _
  .split
   .split
    .exact hN _
    .split
     .exact hN _
     .exact⟨h,rfl⟩
   .split
    .split
     .rename_i a b c hk;cases e with
      |mk i k n r t ks ns =>
       simp only[Exp.kids_mk]at hk;subst hk;simp only[Exp.nice,bC]at h;simp only[twK,Exp.nice,bC,Exp.id_mk,Exp.k_mk,Exp.n_mk,Exp.ref_mk,Exp.typ_mk,Exp.names_mk,tmps,jG,jA4,jAn,jB4];obtain⟨h1,h2,h3,h4,h5,_⟩:=h;exact⟨⟨fun _=>rfl,h2,h3,h5,h4,trivial⟩,by omega⟩
     .exact⟨h,rfl⟩
    .exact⟨h,rfl⟩
mutual
theorem zFf(x:Int):∀(e:Exp) (a:Int),e.nice->(yT e a x).1.nice/\(tmps (yT e a x).1).length=(tmps e).length
 | .mk i k n r t ks ns,a,h=>by
  simp only[yT];split
  .exact zKq h x
  .simp only[Exp.nice]at h;have:=uH x ks (a-1) h.2.2;simp only[Exp.nice,tmps,jA4,jAn,this.2,sA];exact⟨⟨h.1,h.2.1,this.1⟩,trivial⟩
theorem uH(x:Int):∀(l:wH) (a:Int),bC l->bC (qN l a x).1/\(jG (qN l a x).1).length=(jG l).length
 |[],_,_=>⟨trivial,rfl⟩
 |e::l,a,h=>by
  simp only[qN];split
  .have h1:=zFf x e a h.1;have h2:=uH x l (yT e a x).2 h.2;simp only[bC,jG,jA4,h1.2,h2.2,and_true];exact⟨h1.1,h2.1⟩
  .have h2:=uH x l a h.2;simp only[bC,jG,jA4,h2.2,and_true];exact⟨h.1,h2.1⟩
end
theorem zTT{hs:wQ}{own:Int}(h:WT hs own env e t):e.nice:=by
 induction h with
 |int env i n h1 h2=>simp[Exp.nice,bC]
 |bool env i n h=>simp[Exp.nice,bC]
 |var env i n x t h=>simp[Exp.nice,bC]
 |call env i k h ks ho hk hlen hw ih =>
  simp only[Exp.nice,mO];refine⟨fun h=>by omega,by simp,fun e hm=>?_⟩;obtain⟨j,hj,rfl⟩:=jAl hm;exact ih j hj
 |arith env i n a b h1 h2 ha hb iha ihb=>simp[Exp.nice,bC,iha,ihb]
 |less env i a b ha hb iha ihb=>simp[Exp.nice,bC,iha,ihb]
 |same env i a b u ha hb iha ihb=>simp[Exp.nice,bC,iha,ihb]
 |andor env i n a b h ha hb iha ihb=>simp[Exp.nice,bC,iha,ihb]
 |not env i a ha iha=>simp[Exp.nice,bC,iha]
 |join env i a b t ha hb iha ihb=>simp[Exp.nice,bC,iha,ihb]
 |len env i a t ha iha=>simp[Exp.nice,bC,iha]
 |ite env i a b c t ha hb hc iha ihb ihc=>simp[Exp.nice,bC,iha,ihb,ihc]
 |lets env i a b u t ns hn ha hb iha ihb=>simp[Exp.nice,bC,iha,ihb,hn]
 |record env i k h ks hk hlen hw ih =>
  simp only[Exp.nice,mO];refine⟨fun h=>by omega,by simp,fun e hm=>?_⟩;obtain⟨j,hj,rfl⟩:=jAl hm;exact ih j hj
 |field env i k h j hj a hk ha iha=>simp[Exp.nice,bC,iha]
 |case env i k h j hj a hk ha iha=>simp[Exp.nice,bC,iha]
 |mtch env i k h a ks t ns hn hk hlen ha hw iha ih =>
  simp only[Exp.nice,mO];refine⟨fun h=>by omega,hn,fun e hm=>?_⟩;rcases jA3.1 hm with rfl|hm
  .exact iha
  .obtain⟨j,hj,rfl⟩:=jAl hm;exact ih j hj
 |list env i t ks hw ih =>
  simp only[Exp.nice,mO];refine⟨fun h=>by omega,by simp,fun e hm=>?_⟩;obtain⟨j,hj,rfl⟩:=jAl hm;exact ih j hj
 |fold env i l s b u t ns hn hl' hs' hb' ihl ihs ihb=>simp[Exp.nice,bC,ihl,ihs,ihb,hn]
structure FineP(p:Prg):Prop where
 defs:p.defs.length<=9
 mods:p.mods.length<=100
 slots:∀d∈p.defs,1<=d.slots.length/\d.slots.length<=6
 nice:∀d∈p.defs,d.body.nice
 size:∀d∈p.defs,(tmps d.body).length<=32768
theorem FineP.small(h:FineP p):(mV p.defs).length<=100000/\(oL p.defs).length<=300000/\(jZ p.defs).length<=300000:=by
 have h9:=h.defs;have hn:=zOD p.defs 32768 h.size;have h3:(jZ p.defs).length<=300000:=by omega
 have key:∀{α:Type} (idf : α->Id) (L acc:List α),(L.foldl (cE idf) acc).length<=acc.length+L.length:=by
  intro α idf L;induction L with
  |nil=>intro acc;simp
  |cons x L ih =>
   intro acc;rw[jAt];have:=ih (cE idf acc x);have h2:(cE idf acc x).length<=acc.length+1:=by
    unfold cE;split
    .omega
    .simp
   simp only[jAb];omega
 refine⟨?_,?_,h3⟩
 .have:=key Dfn.id p.defs [];simp only[jB4,jAx]at this;unfold mV;omega
 .rw[o7];have:=key Exp.id (jZ p.defs) [];simp only[jB4,jAx]at this;omega
structure Bn(c:Nat)(m:Int)(s:XS):Prop where
 ns:s.ns.length+s.fuel.toNat<=c
 ds:s.ds.length+s.fuel.toNat<=c
 fu:s.fuel<=m
structure Bd(c:Nat)(m:Int)(s:XS):Prop where
 ns:s.ns.length+s.fuel.toNat<=c
 ds:s.ds.length+s.fuel.toNat<=c
 fu:s.fuel<=m
 ok:s.fail=0->s.ds.length+s.fuel.toNat+1<=c
variable{c:Nat}{m:Int}{s:XS}
theorem Bd.bn(h:Bd c m s):Bn c m s:=⟨h.ns,h.ds,h.fu⟩
theorem Bd.mono{m':Int}(h:Bd c m s)(hm:m<=m'):Bd c m' s:=⟨h.ns,h.ds,by have:=h.fu;omega,h.ok⟩
theorem Bn.bad(h:Bn c m s)(hf:s.fail≠0):Bd c m s:=⟨h.ns,h.ds,h.fu,fun e=>(hf e).elim⟩
theorem Bn.fail(h:Bn c m s){x:Int}(hx:x≠0):Bd c m {s with fail:=x}:=⟨h.ns,h.ds,h.fu,fun e=>(hx e).elim⟩
theorem Bn.tick(h:Bn c m s)(e:Exp)(hf:¬s.fuel<=0):Bd c (m-1) (gH e s):=by obtain⟨h1,h2,h3⟩:=h;unfold gH;exact⟨by simp only[List.length_append,List.length_singleton];omega,by dsimp only;omega,by dsimp only;omega,fun _=>by dsimp only;omega⟩
theorem Bd.def(h:Bd c m s)(d:Id)(hf:s.fail=0):Bn c m {s with ds:=s.ds++[d]}:=by have:=h.ok hf;exact⟨h.ns,by simp only[jA4,jAn];omega,h.fu⟩
section
variable{p:Prg}{ev:Evl}{c:Nat}{m:Int}
theorem zDh(h:∀e V s,Bn c m s->Bd c m (ev e V s).2)(V:wP):∀(l:wH) (s:XS),Bd c m s->Bd c m (jQ ev V l s).2
 |[],s,hs=>hs
 |e::l,s,hs=>by simp only[jQ];exact zDh h V l _ (h e V s hs.bn)
theorem zDZ(h:∀e V s,Bn c m s->Bd c m (ev e V s).2)(V:wP)(i:Id)(b:Exp):∀(l:wI) (r:Val×XS),Bd c m r.2->Bd c m (aN ev V i b l r).2
 |[],r,hs=>hs
 |e::l,r,hs=>by simp only[aN];exact zDZ h V i b l _ (h _ _ _ hs.bn)
theorem zD9(h:∀e V s,Bn c m s->Bd c m (ev e V s).2)(d:Dfn)(vs:wI)(s:XS)(hs:Bd c m s):Bd c m (dR ev d vs s).2:=by
 unfold dR;split
 .exact hs
 .rename_i hf;exact h _ _ _ (hs.def d.id (by omega))
theorem zKA(h:∀e V s,Bn c m s->Bd c m (ev e V s).2)(e:Exp)(V:wP)(s:XS)(hs:Bd c m s):Bd c m (jO ev e V s).2:=by
 unfold jO;have h0:=h (e.kids.headD .zero) V s hs.bn;generalize ev (e.kids.headD .zero) V s=r at *
 repeat' split
 all_goals first
  |exact h0
  |exact h _ _ _ h0.bn
  |exact zDZ h _ _ _ _ _ (h _ _ _ h0.bn)
theorem zPh(h:∀e V s,Bn c m s->Bd c m (ev e V s).2)(fl:Nat)(e:Exp)(V:wP)(s:XS)(hs:Bd c m s):Bd c m (qP p fl ev e V s).2:=by
 unfold qP;have h0:=zDh h V e.kids s hs;generalize jQ ev V e.kids s=r at *
 repeat' split
 all_goals first
  |exact hs
  |exact h0
  |exact zKA h _ _ _ hs
  |exact zD9 h _ _ _ h0
theorem zTf{r:Val×XS}(h:Bd c m r.2):Bd c m (oZ r):=by
 unfold oZ;split
 .exact h.bn.fail (by decide)
 .exact h
theorem zBa(fl:Nat):∀(n:Nat) e V s,Bn c m s->Bd c m (bD p fl n e V s).2
 | 0,e,V,s,hs=>by
  rw[bD];split
  .rename_i h;exact hs.bad h
  .exact hs.fail (by decide)
 |n+1,e,V,s,hs=>by
  rw[bD];split
  .rename_i h;exact hs.bad h
  .split
   .exact hs.fail (by decide)
   .rename_i h;exact zTf (zPh (zBa fl n) fl e V _ ((hs.tick e h).mono (by omega)))
end
def Eqv(r r':Val×XS):Prop:=r.2=r'.2/\(r.2.fail=0->r.1=r'.1)
theorem Eqv.rfl'(r:Val×XS):Eqv r r:=⟨rfl,fun _=>rfl⟩
theorem Eqv.eq{r r':Val×XS}(h:Eqv r r')(hf:r.2.fail=0):r'=r:=Prod.ext (h.2 hf).symm h.1.symm
section
variable{p:Prg}{f g:Evl}
end
end Go.Proofs.YtolkhapmieigcaaGreatDoor
