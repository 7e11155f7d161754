/-
  The maker's programs, walked: the nodes get their IDs.
  The maker's programs, walked: the bodies are made.
-/
import Derived.Test.YthglhccibdlccaaGreatDoorX46
set_option linter.unusedVariables false
set_option linter.unusedSimpArgs false
namespace Go.Proofs.YthglhccibdlccaaGreatDoor
open Go.Abs
def KPrgS : K :=
  (K.seq (K.ops [kA 137 4 1,
 kL 138 137 1,
 kG 139 10 31,
 ⟨none, .bslice (some 140) 39 31 1 kz0 [(0, 31, (.tmp 139))]⟩,
 kP 141 39 31 352 138 140,
 kA 142 4 1,
 kS 142 141 1])
 (K.dops [(0, 1, kA 143 4 0),
 (1, 1, kL 144 143 1),
 (2, 0, kM 145 7),
 (3, 0, kM 146 9),
 (4, 1, kX 147 145 146 11),
 (5, 1, kA 148 147 10),
 (6, 1, kL 149 148 1),
 (7, 0, kA 150 4 0),
 (8, 0, kL 151 150 1),
 (9, 0, kM 152 7),
 (10, 0, kM 153 9),
 (11, 0, kX 154 152 153 11),
 (12, 0, kA 155 154 10),
 (13, 0, kL 156 155 1),
 (14, 0, kX 157 151 156 6),
 (15, 0, kA 158 157 5),
 (16, 0, kL 159 158 1),
 (17, 0, kA 160 10 0),
 (18, 0, kG 161 160 3),
 (19, 0, ⟨none, .bslice (some 162) 29 3 1 [(.int .i64 0), (.int .i64 0), (.int .i64 0)] [(0, 3, (.tmp 161))]⟩),
 (20, 0, kP 163 29 3 24 159 162),
 (21, 0, kX 164 144 149 6),
 (22, 0, kA 165 164 5),
 (23, 0, kS 165 163 1)]))
def KPrgF : K :=
  (K.seq (K.ops [kM 213 13,
 kM 214 14,
 kU 215 213,
 kA 216 215 6,
 kS 216 214 1])
 (K.seq (K.ops [kM 217 13,
 kA 218 15 4,
 kG 219 218 3,
 kU 220 217,
 kA 221 220 7,
 kS 221 219 3])
 (K.seq (K.ops [kM 222 13,
 kU 223 222,
 kA 224 223 5,
 ⟨none, .st none (.tmp 224) (.const (.int .i64 14)) 1⟩])
 (K.seq (K.ops [kM 225 13,
 kU 226 225,
 kA 227 226 10,
 ⟨none, .st none (.tmp 227) (.const (.int .i64 0)) 1⟩])
 (K.seq (K.dops [(0, 2, kA 228 4 1),
 (1, 4002, kL 229 228 1),
 (2, 0, kM 230 14),
 (3, 0, kM 231 13),
 (4, 0, kA 232 15 9),
 (5, 0, kG 233 232 5),
 (6, 0, kM 234 16),
 (7, 3002, kC 235 34 [(.tmp 231), (.tmp 233), (.tmp 234), (.const (.int .i64 4))]),
 (8, 4002, kX 236 229 230 31),
 (9, 4002, kA 237 236 14),
 (10, 0, kS 237 235 15)])
 (K.seq (K.ops [kA 238 4 1,
 kL 239 238 1,
 kM 240 14,
 kX 241 239 240 31,
 kA 242 241 14,
 kG 243 242 15,
 kC 244 35 [(.tmp 243)],
 kBi 245 244 30 .gtr])
 (K.cond (.tmp 245)
 (K.seq (K.ops [kM 246 13,
 kU 247 246,
 kA 248 247 5,
 ⟨none, .st none (.tmp 248) (.const (.int .i64 0)) 1⟩])
 (K.dops [(0, 2, kA 249 4 1),
 (1, 4002, kL 250 249 1),
 (2, 0, kM 251 14),
 (3, 0, kM 252 13),
 (4, 0, kA 253 15 9),
 (5, 0, kG 254 253 5),
 (6, 0, kM 255 16),
 (7, 3002, kC 256 34 [(.tmp 252), (.tmp 254), (.tmp 255), (.const (.int .i64 0))]),
 (8, 4002, kX 257 250 251 31),
 (9, 4002, kA 258 257 14),
 (10, 0, kS 258 256 15)]))
 (K.skip))))))))
def KPrgD : K :=
  (K.seq (K.ops [kM 259 13,
 kU 260 259,
 kA 261 260 4,
 kL 262 261 1,
 ⟨none, .mop (some 263) (.mks 29 3 24 [(.int .i64 0), (.int .i64 0), (.int .i64 0)]) [(.tmp 262), (.tmp 262)]⟩,
 kM 18 263])
 (K.seq (K.seq (K.ops [kMi 19 0])
 (K.block 10 (K.loop (K.seq (K.seq (K.ops [kM 264 19,
 kA 265 4 1,
 kL 266 265 1,
 kN 267 266,
 kB 268 264 267 .lss])
 (K.cond (.tmp 268)
 (K.skip)
 (K.exit 10)))
 (K.seq (K.block 11 (K.seq (K.seq (K.ops [kA 271 4 1,
 kL 272 271 1,
 kM 273 19,
 kX 274 272 273 31,
 kA 275 274 3,
 kL 276 275 1,
 kQi 277 276 0 false,
 kM 278 277,
 kT 278 false (kA 279 4 1),
 kT 278 false (kL 280 279 1),
 kT 278 false (kM 281 19),
 kT 278 false (kX 282 280 281 31),
 kT 278 false (kA 283 282 3),
 kT 278 false (kL 284 283 1),
 kT 278 false (kQi 285 284 1 false),
 kPt 286 278 285])
 (K.cond (.tmp 286)
 (K.exit 11)
 (K.skip)))
 (K.seq (K.ops [kA 287 4 1,
 kL 288 287 1,
 kM 289 19,
 kX 290 288 289 31,
 kA 291 290 14,
 kG 292 291 15,
 kC 293 36 [(.tmp 292), (.const (.slice none 0 0))],
 kM 20 293])
 (K.seq (K.seq (K.ops [kMi 21 0])
 (K.block 12 (K.loop (K.seq (K.seq (K.ops [kM 294 21,
 kM 295 20,
 kN 296 295,
 kB 297 294 296 .lss])
 (K.cond (.tmp 297)
 (K.skip)
 (K.exit 12)))
 (K.seq (K.block 13 (K.seq (K.dops [(0, 0, kM 300 18),
 (1, 0, kM 301 20),
 (2, 0, kM 302 21),
 (3, 0, kX 303 301 302 1),
 (4, 0, kL 304 303 1),
 (5, 0, kM 305 8),
 (6, 0, kC 306 32 [(.tmp 305)]),
 (7, 0, kX 307 300 304 3),
 (8, 0, kS 307 306 3)])
 (K.ops [kM 308 8,
 kBi 309 308 1 .add,
 kM 8 309])))
 (K.ops [kM 298 21,
 kBi 299 298 1 .add,
 kM 21 299]))))))
 (K.dops [(0, 0, kA 310 4 1),
 (1, 0, kL 311 310 1),
 (2, 0, kM 312 19),
 (3, 0, kA 313 4 1),
 (4, 0, kL 314 313 1),
 (5, 0, kM 315 19),
 (6, 0, kX 316 314 315 31),
 (7, 0, kA 317 316 14),
 (8, 0, kG 318 317 15),
 (9, 0, kM 319 18),
 (10, 0, kC 320 37 [(.tmp 318), (.tmp 319)]),
 (11, 0, kX 321 311 312 31),
 (12, 0, kA 322 321 14),
 (13, 0, kS 322 320 15)])))))
 (K.ops [kM 269 19,
 kBi 270 269 1 .add,
 kM 19 270]))))))
 (K.seq (K.ops [kG 323 4 2,
 kS 2 323 2])
 (K.ret))))
def KPrgC : K :=
  (K.seq (K.ops [kG 166 4 2,
 kM 167 0,
 ⟨none, .build (some 168) [(.slice none 0 0), (.slice none 0 0), (.slice none 0 0), (.int .i64 0), (.int .i64 0), (.int .i64 0), (.int .i64 0), (.int .i64 0), (.int .i64 0), (.int .i64 0), (.int .i64 0)] [(0, 2, (.tmp 166)), (2, 1, (.tmp 167)), (3, 1, (.const (.int .i64 24)))]⟩,
 kO 169 168,
 kM 13 169])
 (K.seq (K.seq (K.ops [kMi 14 0])
 (K.block 6 (K.loop (K.seq (K.seq (K.ops [kM 170 14,
 kA 171 4 1,
 kL 172 171 1,
 kN 173 172,
 kB 174 170 173 .lss])
 (K.cond (.tmp 174)
 (K.skip)
 (K.exit 6)))
 (K.seq (K.block 7 (K.seq (K.ops [kA 177 4 1,
 kL 178 177 1,
 kM 179 14,
 kX 180 178 179 31,
 kG 181 180 31,
 kZ 15 kz0,
 kS 15 181 31])
 (K.seq (K.seq (K.ops [kA 182 15 3,
 kL 183 182 1,
 kQi 184 183 0 false,
 kM 185 184,
 kT 185 false (kA 186 15 3),
 kT 185 false (kL 187 186 1),
 kT 185 false (kQi 188 187 1 false),
 kPt 189 185 188])
 (K.cond (.tmp 189)
 (K.exit 7)
 (K.skip)))
 (K.seq (K.ops [kMn 16])
 (K.seq (K.seq (K.ops [kMi 17 0])
 (K.block 8 (K.loop (K.seq (K.seq (K.ops [kM 190 17,
 kA 191 15 8,
 kL 192 191 1,
 kN 193 192,
 kB 194 190 193 .lss])
 (K.cond (.tmp 194)
 (K.skip)
 (K.exit 8)))
 (K.seq (K.block 9 (K.dops [(0, 0, kM 197 16),
 (1, 0, kA 198 15 8),
 (2, 0, kL 199 198 1),
 (3, 0, kM 200 17),
 (4, 0, kX 201 199 200 11),
 (5, 0, kA 202 201 0),
 (6, 0, kG 203 202 3),
 (7, 0, kA 204 15 8),
 (8, 0, kL 205 204 1),
 (9, 0, kM 206 17),
 (10, 0, kX 207 205 206 11),
 (11, 0, kA 208 207 4),
 (12, 0, kG 209 208 5),
 (13, 0, ⟨none, .build (some 210) kz7 [(0, 3, (.tmp 203)), (4, 5, (.tmp 209))]⟩),
 (14, 0, ⟨none, .bslice (some 211) 96 9 1 kz7 [(0, 9, (.tmp 210))]⟩),
 (15, 0, kP 212 96 9 88 197 211),
 (16, 0, kM 16 212)]))
 (K.ops [kM 195 17,
 kBi 196 195 1 .add,
 kM 17 196]))))))
 (K.wk KPrgF))))))
 (K.ops [kM 175 14,
 kBi 176 175 1 .add,
 kM 14 176]))))))
 (K.wk KPrgD)))
def KPrgB : K :=
  (K.seq (K.ops [kM 48 0,
 kM 49 3,
 kC 50 33 [(.tmp 48), (.tmp 49)],
 kM 7 50])
 (K.seq (K.ops [kM 51 3,
 kM 52 7,
 kN 53 52,
 kB 54 51 53 .add,
 kM 8 54])
 (K.seq (K.seq (K.ops [kMi 9 0])
 (K.block 2 (K.loop (K.seq (K.seq (K.ops [kM 55 9,
 kM 56 7,
 kN 57 56,
 kB 58 55 57 .lss])
 (K.cond (.tmp 58)
 (K.skip)
 (K.exit 2)))
 (K.seq (K.block 3 (K.seq (K.dops [(0, 0, kM 61 3),
 (1, 0, kM 62 9),
 (2, 0, kB 63 61 62 .add),
 (3, 1, kC 64 32 [(.tmp 63)]),
 (4, 0, kM 65 7),
 (5, 0, kM 66 9),
 (6, 1, kX 67 65 66 11),
 (7, 1, kA 68 67 0),
 (8, 1, kL 69 68 1),
 (9, 0, kM 70 7),
 (10, 0, kM 71 9),
 (11, 1, kX 72 70 71 11),
 (12, 1, kA 73 72 10),
 (13, 1, kL 74 73 1),
 (14, 1, kC 75 32 [(.tmp 74)]),
 (15, 0, kM 76 7),
 (16, 0, kM 77 9),
 (17, 1, kX 78 76 77 11),
 (18, 1, kA 79 78 1),
 (19, 1, kL 80 79 1),
 (20, 0, kM 81 7),
 (21, 0, kM 82 9),
 (22, 1, kX 83 81 82 11),
 (23, 1, kA 84 83 5),
 (24, 1, kG 85 84 5),
 (25, 0, ⟨none, .build (some 86) kz0 [(0, 3, (.tmp 64)), (3, 1, (.tmp 69)), (4, 3, (.tmp 75)), (7, 1, (.tmp 80)), (9, 5, (.tmp 85))]⟩),
 (26, 0, kZ 10 kz0),
 (27, 0, kS 10 86 31)])
 (K.seq (K.seq (K.ops [kMi 11 0])
 (K.block 4 (K.loop (K.seq (K.seq (K.ops [kM 87 11,
 kM 88 7,
 kM 89 9,
 kX 90 88 89 11,
 kA 91 90 2,
 kL 92 91 1,
 kN 93 92,
 kB 94 87 93 .lss])
 (K.cond (.tmp 94)
 (K.skip)
 (K.exit 4)))
 (K.seq (K.block 5 (K.seq (K.dops [(0, 0, kM 97 8),
 (1, 1, kC 98 32 [(.tmp 97)]),
 (2, 0, kM 99 7),
 (3, 0, kM 100 9),
 (4, 1, kX 101 99 100 11),
 (5, 1, kA 102 101 3),
 (6, 1, kL 103 102 1),
 (7, 0, kM 104 11),
 (8, 1, kX 105 103 104 1),
 (9, 1, kL 106 105 1),
 (10, 0, kM 107 7),
 (11, 0, kM 108 9),
 (12, 1, kX 109 107 108 11),
 (13, 1, kA 110 109 2),
 (14, 1, kL 111 110 1),
 (15, 0, kM 112 11),
 (16, 1, kX 113 111 112 5),
 (17, 1, kG 114 113 5),
 (18, 0, kM 115 11),
 (19, 0, ⟨none, .build (some 116) kz5 [(0, 3, (.tmp 98)), (3, 1, (.tmp 106)), (4, 5, (.tmp 114)), (10, 1, (.tmp 115))]⟩),
 (20, 0, kZ 12 kz5),
 (21, 0, kS 12 116 11)])
 (K.seq (K.seq (K.ops [kA 117 10 3,
 kL 118 117 1,
 kQi 119 118 4 false])
 (K.cond (.tmp 119)
 (K.ops [kM 120 7,
 kM 121 9,
 kX 122 120 121 11,
 kA 123 122 4,
 kL 124 123 1,
 kM 125 11,
 kX 126 124 125 1,
 kL 127 126 1,
 kA 128 12 9,
 kS 128 127 1])
 (K.skip)))
 (K.seq (K.ops [kA 129 10 8,
 kL 130 129 1,
 kG 131 12 11,
 ⟨none, .bslice (some 132) 90 11 1 kz5 [(0, 11, (.tmp 131))]⟩,
 kP 133 90 11 112 130 132,
 kA 134 10 8,
 kS 134 133 1])
 (K.ops [kM 135 8,
 kBi 136 135 1 .add,
 kM 8 136])))))
 (K.ops [kM 95 11,
 kBi 96 95 1 .add,
 kM 11 96]))))))
 (K.wk KPrgS))))
 (K.ops [kM 59 9,
 kBi 60 59 1 .add,
 kM 9 60]))))))
 (K.wk KPrgC))))
def KPrg : K :=
 K.seq (K.ops [kZ 2 [(.slice none 0 0), (.slice none 0 0)]])
 (K.seq (K.ops [kM 22 0,
 kC 23 31 [(.tmp 22), (.const (.int .i64 0)), (.const (.int .i64 2))],
 ⟨none, .bin (some 24) .add (.const (.int .i64 1)) (.tmp 23)⟩,
 kM 3 24])
 (K.seq (K.ops [kZ 4 [(.slice none 0 0), (.slice none 0 0)]])
 (K.seq (K.seq (K.ops [kMi 5 0])
 (K.block 0 (K.loop (K.seq (K.seq (K.ops [kM 25 5,
 kM 26 3,
 kB 27 25 26 .lss])
 (K.cond (.tmp 27)
 (K.skip)
 (K.exit 0)))
 (K.seq (K.block 1 (K.seq (K.dops [(0, 0, kM 30 5),
 (1, 1, kC 31 32 [(.tmp 30)]),
 (2, 0, ⟨none, .bslice (some 32) 9 1 2 [(.string ⟨#[]⟩), (.string ⟨#[]⟩)] [(0, 1, (.const (.string ⟨#[99, 111, 114, 101]⟩))), (1, 1, (.const (.string ⟨#[109, 105, 108, 108]⟩)))]⟩),
 (3, 0, kM 33 5),
 (4, 1, kX 34 32 33 1),
 (5, 1, kL 35 34 1),
 (6, 0, ⟨none, .build (some 36) kz9 [(0, 3, (.tmp 31)), (3, 1, (.tmp 35))]⟩),
 (7, 0, kZ 6 kz9),
 (8, 0, kS 6 36 6)])
 (K.seq (K.seq (K.ops [kM 37 5,
 kQi 38 37 1 false])
 (K.cond (.tmp 38)
 (K.ops [kC 39 32 [(.const (.int .i64 0))],
 ⟨none, .bslice (some 40) 29 3 1 [(.int .i64 0), (.int .i64 0), (.int .i64 0)] [(0, 3, (.tmp 39))]⟩,
 kA 41 6 4,
 kS 41 40 1])
 (K.skip)))
 (K.ops [kA 42 4 0,
 kL 43 42 1,
 kG 44 6 6,
 ⟨none, .bslice (some 45) 84 6 1 kz9 [(0, 6, (.tmp 44))]⟩,
 kP 46 84 6 88 43 45,
 kA 47 4 0,
 kS 47 46 1]))))
 (K.ops [kM 28 5,
 kBi 29 28 1 .add,
 kM 5 29]))))))
 (K.wk KPrgB))))
def hPrg : Nat → Option (List (Nat × Nat)) := fun r => match r with | 41 => some [(0,2),(1,4002),(2,0),(3,0),(4,0),(5,0),(6,0),(7,3002),(8,4002),(9,4002),(10,0)] | 44 => some [(0,2),(1,4002),(2,0),(3,0),(4,0),(5,0),(6,0),(7,3002),(8,4002),(9,4002),(10,0)] | 56 => some [(0,0),(1,0),(2,0),(3,0),(4,0),(5,0),(6,0),(7,0),(8,0),(9,0),(10,0),(11,0),(12,0),(13,0)] | _ => none
theorem cPrg : compileH Tryz.prog Tryz.f9.ntmps hPrg (Tryz.f9.body.getD .skip) = some KPrg.erase := by kernel_rfl
@[simp] theorem calPrg : callable Tryz.prog 9 = true := by kernel_rfl
abbrev finP (p : Prg) := fin [RS.cell 2 2 true] (RetQ 0 (.agg (encP p)) [])
set_option maxHeartbeats 4000000 in
set_option maxRecDepth 100000 in
theorem prg_D (m : Mk) (M : List Md) (next : Int) (N : Nat) (hN : m.temp = N) (hN1 : N ≤ 10000000000) (h0 : 0 ≤ next) (h1 : next ≤ 1000000) (hd8 : m.defs.length ≤ 100)
    (hb : ∀ d ∈ m.defs, bodB d = true → d.body.under N ∧ (∀ c ∈ tmps d.body, 0 ≤ c ∧ c < N) ∧ (tmps d.body).length ≤ 1000000) :
    wpK Tryz.prog 0 KPrgD (finP ⟨M, (nAll ⟨m.defs, zerosI N, next⟩ m.defs.length).ds⟩) (mkEnv [(2, .ptr 2 0), (4, .ptr 3 0), (8, int next), (13, .ptr 0 0)])
      (mkS m ++ [.box [.nil, .nil], .box [.sl M.length (cellsM M), .row 1 m.defs.length]]) := by
  generalize hs : (⟨m.defs, zerosI N, next⟩ : NSt) = s
  have hsd : s.ds = m.defs := by rw [← hs]
  have hsi : s.ids.length = N := by rw [← hs]; simp [zerosI]
  have hsn : s.next = next := by rw [← hs]
  have hz := cellsI_zeros N
  have hz2 : s.ids = zerosI N := by rw [← hs]
  have hnx : ∀ i ≤ m.defs.length, 0 ≤ (nAll s i).next ∧ (nAll s i).next ≤ 1000000 + 1000000 * i := by
    intro i
    induction i with
    | zero => intro _; simp only [nAll, hsn]; omega
    | succ i ih =>
      intro hi
      have ih := ih (by omega)
      have hd : s.ds[i]? = some (m.defs[i]'(by omega)) := by rw [hsd, List.getElem?_eq_getElem (by omega)]
      rw [nAll_step s hd]
      split
      · rename_i hbd
        have := (hb _ (List.getElem_mem (by omega)) hbd).2.2
        simp only
        omega
      · omega
  have h24 : 24 * N ≤ 281474976710656 := by omega
  unfold KPrgD
  simp -implicitDefEqProofs [mkS, mkB, hN, h24]
  refine ⟨by omega, ?_⟩
  refine loopS (S := Nat) (fun i => [(2, .ptr 0 0), (4, .ptr 1 0), (8, int (nAll s i).next), (18, .row 3 N), (19, int i)])
    (fun i => [.box [.nil, .nil], .box [.sl M.length (cellsM M), .row 2 m.defs.length], .row false 39 31 m.defs.length (cellsD (nAll s i).ds), .row false 29 3 N (cellsI (nAll s i).ids)]) (fun i => i ≤ m.defs.length) (fun i => m.defs.length - i) 0 (by simp)
    (selW [2, 3, 1, 4] 0 (by decide) (by simp) (by simp [nAll, hsd, hz2, ← hz]) (by simp [nAll, hsn])) ?_
  intro i hi
  by_cases h : i < m.defs.length
  · have hd : s.ds[i]? = some m.defs[i] := by rw [hsd, List.getElem?_eq_getElem (by omega)]
    have hst := nAll_step s hd
    have hcur : (nAll s i).ds[i]? = some m.defs[i] := by rw [nAll_later s i i (Nat.le_refl _)]; exact hd
    obtain ⟨hlt, hce⟩ := List.getElem?_eq_some_iff.1 hcur
    obtain ⟨hl1, hl2⟩ := nAll_len s i
    have hbd := hb _ (List.getElem_mem h)
    obtain ⟨nx0, nx1⟩ := hnx i hi
    have hw := cellsD_wb hlt (renE (idAt (setI (nAll s i).ids (nAll s i).next (tmps m.defs[i].body))) m.defs[i].body)
    have hdr := cellsD_drop hlt
    rw [hce] at hw hdr
    have hi8 : (i : Int) ≤ 100 := by omega
    have wi : IntKind.i64.wrap ((i : Int) + 1) = i + 1 := IntWalk.i64_in _ (by omega)
    rw [hsd] at hl1
    rw [hsi] at hl2
    generalize hse : nAll s (i + 1) = s' at hst
    generalize hte : nAll s i = t at *
    generalize m.defs[i] = d at *
    have hb3 : i * 31 + 3 + 1 ≤ m.defs.length * 31 := by omega
    have hb14 : i * 31 + 14 + 15 ≤ m.defs.length * 31 := by omega
    have hdr3 : List.drop (i * 31 + 3) (cellsD t.ds) = (encD d ++ cellsD (t.ds.drop (i + 1))).drop 3 := by rw [← List.drop_drop, hdr]
    have hdr14 : List.drop (i * 31 + 14) (cellsD t.ds) = (encD d ++ cellsD (t.ds.drop (i + 1))).drop 14 := by rw [← List.drop_drop, hdr]
    have henc : encD d = (encD d).take 14 ++ encE d.body ++ [.lit (.int .i64 d.place), .sl d.lay.length (cellsN d.lay)] := rfl
    by_cases hk0 : d.kind = 0
    · have hbf : bodB d = false := by simp [bodB, hk0]
      rw [hbf] at hst
      simp only [Bool.false_eq_true, if_false] at hst
      subst hst
      simp -implicitDefEqProofs [h, hdr3, hb3, hl1, encD, hk0]
      exact roundS (i + 1) h (by omega) (selW [0, 1, 2, 3] 0 (by decide) (by simp) (by simp [hse]) (by simp [wi, hse]))
    · by_cases hk1 : d.kind = 1
      · have hbf : bodB d = false := by simp [bodB, hk1]
        rw [hbf] at hst
        simp only [Bool.false_eq_true, if_false] at hst
        subst hst
        simp -implicitDefEqProofs [h, hdr3, hb3, hl1, encD, hk1]
        exact roundS (i + 1) h (by omega) (selW [0, 1, 2, 3] 0 (by decide) (by simp) (by simp [hse]) (by simp [wi, hse]))
      · have hbf : bodB d = true := by simp [bodB, hk0, hk1]
        rw [hbf] at hst
        simp only [if_true] at hst
        obtain ⟨bu, bc, bl⟩ := hbd hbf
        have hnum := number_nil d.body (by omega)
        simp -implicitDefEqProofs [h, hdr3, hb3, hl1, encD, hk0, hk1, hdr14, hb14]
        refine callJ hnum [] (by simp) (by simp) (by simp [encE]) ?_
        generalize hO : tmps d.body = O at *
        simp -implicitDefEqProofs [rowI]
        refine loopS (S := Nat) (fun k => [(2, .ptr 0 0), (4, .ptr 1 0), (8, int (t.next + k)), (18, .row 3 N), (19, int i), (20, .row 4 O.length), (21, int k)])
          (fun k => [.box [.nil, .nil], .box [.sl M.length (cellsM M), .row 2 m.defs.length], .row false 39 31 m.defs.length (cellsD t.ds), .row false 29 3 N (cellsI (setI t.ids t.next (O.take k))), rowI O]) (fun k => k ≤ O.length) (fun k => O.length - k) 0 (by simp)
          (selW [0, 1, 2, 3, 4] 0 (by decide) (by simp) (by simp [rowI, setI]) (by simp)) ?_
        intro k hk
        by_cases hkl : k < O.length
        · obtain ⟨hc0, hc1⟩ := bc O[k] (List.getElem_mem hkl)
          obtain ⟨c, hc⟩ : ∃ c : Nat, O[k] = c := ⟨O[k].toNat, by omega⟩
          have hod := ints_drop hkl
          rw [hc] at hod hc1
          have hcN : c < N := by omega
          have hst2 := setI_take hkl t.ids t.next
          rw [hc] at hst2
          have hsl : (setI t.ids t.next (O.take k)).length = N := by rw [setI_len]; exact hl2
          have hset := cellsI_set (R := setI t.ids t.next (O.take k)) (k := c) (idR (t.next + k)) (by omega)
          have wk1 : IntKind.i64.wrap ((k : Int) + 1) = k + 1 := IntWalk.i64_in _ (by omega)
          have wk2 : IntKind.i64.wrap (t.next + (k : Int) + 1) = t.next + k + 1 := IntWalk.i64_in _ (by omega)
          have hb3c : c * 3 + 3 ≤ N * 3 := by omega
          have hkl' : k + 1 ≤ O.length := hkl
          simp -implicitDefEqProofs [rowI, hkl, hkl', hod]
          refine dcall0 (id_ok (t.next + k)) (by simp) (by simp) ?_
          simp -implicitDefEqProofs [encI, hcN, hsl, hb3c]
          exact roundS (k + 1) hkl (by omega) (selW [0, 1, 2, 3, 4] 0 (by decide) (by simp) (by simp [rowI, hst2, ← hset, encI]) (by simp [wk1, wk2]; omega))
        · have hke : k = O.length := by omega
          subst hke
          have hren := renamed_ok (setI t.ids t.next O) d.body (by rw [setI_len, hl2]; exact bu)
          have hsl : (setI t.ids t.next O).length = N := by rw [setI_len]; exact hl2
          unfold rowIds at hren
          rw [hsl] at hren
          rw [List.take_length]
          simp -implicitDefEqProofs [rowI, h, hl1, hdr14, hb14, encD]
          refine dcallS hren [3] (by simp) (by simp) (by simp [encE]) (by simp) (by simp) ?_
          simp -implicitDefEqProofs [h, hl1, hb14]
          exact roundS (i + 1) h (by omega) (selW [0, 1, 2, 3] 0 (by decide) (by simp) (by simp [hse, hst, ← hw]) (by simp [wi, hse, hst]))
  · have hie : i = m.defs.length := by omega
    subst hie
    obtain ⟨hl1, hl2⟩ := nAll_len s m.defs.length
    rw [hsd] at hl1
    simp -implicitDefEqProofs
    exact ret_end 1 (by simp [encP, hl1])
end Go.Proofs.YthglhccibdlccaaGreatDoor
namespace Go.Abs
section
variable {d : Option Nat} {x i : Operand} {n f : Nat} {g : Bool} {env : Env} {l : List Operand}
@[simp] theorem tgtC_ldE' (h1 : 4000 ≤ f) : tgtC f (.ld d x n g) env = isAbove (f - 4000) (ev env x) := propext (tgtC_ldE h1)
@[simp] theorem tgtC_idxE' (h1 : 4000 ≤ f) : tgtC f (.idx d x i n) env = isRow (ev env x) := propext (tgtC_idxE h1)
@[simp] theorem tgtC_addr {o : Nat} (h1 : 6 < f) : tgtC f (.addr d x o) env = True := by
  unfold tgtC
  split
  · omega
  · omega
  · split
    · rfl
    · split
      · rfl
      · split <;> rfl
@[simp] theorem tgtC_callE (h1 : 6 < f) : tgtC f (.call d x l) env = True := by
  unfold tgtC
  split
  · omega
  · omega
  · split
    · rfl
    · split
      · rfl
      · split <;> rfl
@[simp] theorem seeF_hi {σ : St} (h1 : 2 < f) : seeF f σ = σ := by unfold seeF; rw [if_neg (by omega), if_neg (by omega)]
end
theorem rlen5 {a a' x x' y y' z z' : List A} {fz fz' : Bool} {e : TypeId} {s n : Nat} {cs cs' : List A} : RLen [.box a, .row fz e s n cs, .box x, .box y, .box z] [.box a', .row fz' e s n cs', .box x', .box y', .box z'] := by
  intro l f e2 s2 n2 c2 h
  match l, h with
  | 0, h => simp at h
  | 1, h =>
    simp at h
    obtain ⟨rfl, rfl, rfl, rfl, rfl⟩ := h
    exact ⟨fz', cs', rfl⟩
  | 2, h => simp at h
  | 3, h => simp at h
  | 4, h => simp at h
  | n + 5, h => simp at h
end Go.Abs
namespace Go.Proofs.YthglhccibdlccaaGreatDoor
open Go.Abs
theorem envV_get {d : Dfn} {j : Nat} (h : j < d.slots.length) : (envV d)[j]'(by simpa using h) = ⟨d.slots[j].id, 0, d.slots[j].typ⟩ := by simp [envV]
set_option maxHeartbeats 4000000 in
set_option maxRecDepth 100000 in
theorem prg_C (l : List Int) (M : List Md) (n : Nat) (hn : n ≤ 100) (next : Int) (m0 : Mk) (hm0 : m0 = { mods := M, defs := m0.defs, l := l, at_ := 24, temp := 0, left := 0, own := 0, home := Id.zero, name := 0 }) (ms : Nat → Mk) (h0 : ms 0 = m0)
    (hlen : ∀ i ≤ n, (ms i).defs.length = n) (hsl : ∀ i ≤ n, ∀ d ∈ (ms i).defs, d.slots.length ≤ 6) (hst : ∀ i < n, BStep i (ms i) (ms (i + 1))) (p : Prg)
    (hD : wpK Tryz.prog 0 KPrgD (finP p) (mkEnv [(2, .ptr 2 0), (4, .ptr 3 0), (8, int next), (13, .ptr 0 0)]) (mkS (ms n) ++ [.box [.nil, .nil], .box [.sl M.length (cellsM M), .row 1 (ms n).defs.length]])) :
    wpK Tryz.prog 0 KPrgC (finP p) (mkEnv [(0, .sl l.length (ints l)), (2, .ptr 0 0), (4, .ptr 1 0), (8, int next)])
      [.box [.nil, .nil], .box [.sl M.length (cellsM M), .row 2 n], .row false 39 31 n (cellsD m0.defs)] := by
  have hl0 := hlen 0 (by omega)
  rw [h0] at hl0
  have e0 : mkS m0 = [.box [.sl M.length (cellsM M), .row 1 n, .sl l.length (ints l), int 24, int 0, int 0, int 0, int 0, int 0, int 0, int 0], .row false 39 31 n (cellsD m0.defs)] := by
    rw [hm0]
    simp [mkS, mkB, Id.zero, hl0]
  unfold KPrgC
  simp -implicitDefEqProofs
  refine loopS (S := Nat) (fun i => [(2, .ptr 2 0), (4, .ptr 3 0), (8, int next), (13, .ptr 0 0), (14, int i)])
    (fun i => mkS (ms i) ++ [.box [.nil, .nil], .box [.sl M.length (cellsM M), .row 1 n]]) (fun i => i ≤ n) (fun i => n - i) 0 (by simp)
    (selW [3, 2, 0, 1] 0 (by decide) (by simp) (by simp [h0, e0]) (by simp)) ?_
  intro i hi
  by_cases h : i < n
  · obtain ⟨d, hd, hcase⟩ := hst i h
    obtain ⟨hlt, hce⟩ := List.getElem?_eq_some_iff.1 hd
    have hli := hlen i hi
    have hd6 := hsl i hi d (hce ▸ List.getElem_mem hlt)
    generalize hms' : ms (i + 1) = m' at hcase
    generalize hms : ms i = m at *
    have hdr := cellsD_drop hlt
    have hi8 : (i : Int) ≤ 100 := by omega
    have wi : IntKind.i64.wrap ((i : Int) + 1) = i + 1 := IntWalk.i64_in _ (by omega)
    rw [hce] at hdr
    have hb31 : i * 31 + 31 ≤ n * 31 := by omega
    rcases hcase with ⟨hk, hm'⟩ | ⟨⟨hk0, hk1⟩, e1, m1, g1, gd, gm, gl, hcase⟩
    · subst hm'
      rcases hk with hk | hk
      · simp -implicitDefEqProofs [mkS, mkB, h, hdr, hb31, hli, encD, hk]
        exact roundS (i + 1) h (by omega) (selW [0, 1, 2, 3] 0 (by decide) (by simp) (by simp [mkS, mkB, hms', hli]) (by simp [wi]))
      · simp -implicitDefEqProofs [mkS, mkB, h, hdr, hb31, hli, encD, hk]
        exact roundS (i + 1) h (by omega) (selW [0, 1, 2, 3] 0 (by decide) (by simp) (by simp [mkS, mkB, hms', hli]) (by simp [wi]))
    · simp -implicitDefEqProofs [mkS, mkB, h, hdr, hb31, hli, encD, hk0, hk1]
      refine loopS (S := Nat) (fun j => [(2, .ptr 2 0), (4, .ptr 3 0), (8, int next), (13, .ptr 0 0), (14, int i), (15, .ptr 4 0), (16, .row 5 j), (17, int j)])
        (fun j => mkS m ++ [.box [.nil, .nil], .box [.sl M.length (cellsM M), .row 1 n], .box (encD d), .row false 96 9 j (cellsB ((envV d).take j))]) (fun j => j ≤ d.slots.length) (fun j => d.slots.length - j) 0 (by simp)
        ((weak_nilslot (t := 16) (by simp) 96 9).trans (selW [0, 1, 2, 3, 4, 5] 0 (by decide) (by simp) (by simp [mkS, mkB, encD, hli]) (by simp))) ?_
      intro j hj
      by_cases hjl : j < d.slots.length
      · have hdS0 : List.drop (j * 11) (cellsS d.slots) = encS d.slots[j] ++ cellsS (d.slots.drop (j + 1)) := cellsS_drop hjl
        have hdS : List.drop (j * 11 + 4) (cellsS d.slots) = (encS d.slots[j] ++ cellsS (d.slots.drop (j + 1))).drop 4 := by rw [← List.drop_drop, hdS0]
        have hbS : j * 11 + 4 + 5 ≤ d.slots.length * 11 := by omega
        have hbS3 : j * 11 + 3 ≤ d.slots.length * 11 := by omega
        have hst2 := cellsB_take_succ (l := envV d) (i := j) (by simpa using hjl)
        rw [envV_get hjl] at hst2
        have wj : IntKind.i64.wrap ((j : Int) + 1) = j + 1 := IntWalk.i64_in _ (by omega)
        simp -implicitDefEqProofs [mkS, mkB, encD, hjl, hdS0, hdS, hbS, hbS3, encS]
        intro _
        refine ⟨⟨by simp [maxLen]; omega, by omega⟩, ?_⟩
        exact roundS (j + 1) hjl (by omega) (selW [0, 1, 2, 3, 4, 5] 0 (by decide) (by simp) (by simp [mkS, mkB, encD, hst2, encB]) (by simp [wj]))
      · have hje : j = d.slots.length := by omega
        subst hje
        have hall : (envV d).take d.slots.length = envV d := List.take_of_length_le (by simp)
        have hw1 := cellsD_wb hlt e1
        rw [hce] at hw1
        have hdr14 : List.drop (i * 31 + 14) (cellsD (m.defs.set i (d.wb e1))) = (encD (d.wb e1) ++ cellsD ((m.defs.set i (d.wb e1)).drop (i + 1))).drop 14 := by
          have := cellsD_drop (l := m.defs.set i (d.wb e1)) (i := i) (by simpa using hlt)
          rw [← List.drop_drop, this, List.getElem_set_self]
        have hb14 : i * 31 + 14 + 15 ≤ n * 31 := by omega
        have hnodes := nodes_ok e1 gl
        simp -implicitDefEqProofs [mkS, mkB, encD]
        intro _
        refine ⟨mkEnv [(2, .ptr 2 0), (4, .ptr 3 0), (8, int next), (13, .ptr 0 0), (14, int i), (15, .ptr 4 0), (16, .sl (envV d).length (cellsB (envV d)))], mkS m ++ [.box [.nil, .nil], .box [.sl M.length (cellsM M), .row 1 n], .box (encD d)],
          selW [0, 1, 2, 3, 4] 1 (by decide) (by simp) (by simp [mkS, mkB, encD]) (by simp [hall]), ?_⟩
        unfold KPrgF
        simp -implicitDefEqProofs [mkS, mkB, encD]
        refine dcallJE g1 [0, 1] (by decide) (by simp [mkS, mkB, mkA]) (by simp [encT]) (by simp) (by simp) (by simp [mkS]) (by simp [mkS, gd, hli]; exact rlen5) ?_
        have hclen : (cellsD m.defs).length = n * 31 := by rw [cellsD_len, hli]
        have hdq : ∀ X : List A, List.drop (i * 31 + 14) (List.take (i * 31 + 14) (cellsD m.defs) ++ X) = X := fun X => List.drop_left' (by rw [List.length_take, hclen]; omega)
        have hlen15 : i * 31 + 14 + 15 ≤ min (i * 31 + 14) (n * 31) + (15 + (n * 31 - (i * 31 + 14 + 15))) := by omega
        simp -implicitDefEqProofs [mkS, mkB, gd, hli, h, hb14, hdq, hlen15]
        refine call0 hnodes (by simp) (by simp) ?_
        rcases hcase with ⟨c30, hm'⟩ | ⟨c30, e2, m2, g2, gd2, gm2, hm'⟩
        · have c30' : ¬ (30 : Int) < (tmps e1).length := by omega
          simp -implicitDefEqProofs [c30']
          exact roundS (i + 1) h (by omega) (selW [0, 1, 2, 3] 0 (by decide) (by simp) (by simp [mkS, mkB, hms', hm', mkD, gd, hli, ← hw1]) (by simp [wi]))
        · have c30' : (30 : Int) < (tmps e1).length := by omega
          have hw2 := cellsD_wb (ds := m.defs.set i (d.wb e1)) (i := i) (by simpa using hlt) e2
          rw [List.getElem_set_self] at hw2
          have hww : (d.wb e1).wb e2 = d.wb e2 := rfl
          rw [hww, List.set_set] at hw2
          simp -implicitDefEqProofs [c30', hw1]
          refine dcallJE g2 [0, 1] (by decide) (by simp [mkS, mkB, mkL, mkD, gd, hli]) (by simp [encT]) (by simp) (by simp) (by simp [mkS]) (by simp [mkS, gd2, hli]; exact rlen5) ?_
          simp -implicitDefEqProofs [mkS, mkB, gd2, hli, h, hb14]
          exact roundS (i + 1) h (by omega) (selW [0, 1, 2, 3] 0 (by decide) (by simp) (by simp [mkS, mkB, hms', hm', mkD, gd2, hli, ← hw2]) (by simp [wi]))
  · have hie : i = n := by omega
    subst hie
    have hli := hlen i hi
    simp -implicitDefEqProofs [mkS, mkB, hli]
    exact ⟨_, _, selW [0, 1, 2, 3] 0 (by decide) (by simp) (by simp [mkS, mkB, hli]) (by simp), hD⟩
end Go.Proofs.YthglhccibdlccaaGreatDoor
