/- The library's contracts at this program. strings.Builder's copyCheck and WriteString at this program: the walks. -/
import Derived.Shelf.Strings.Builder1
import Derived.Shelf.Strings.Trim
import Derived.Shelf.Strings.SlTrimAscii
import Derived.Shelf.Strconv.Itoa3
import Derived.Shelf.Strconv.AtoiAll
import Derived.Shelf.Strings.Prefix
import Derived.Shelf.Strings.Repeat
import Derived.Shelf.LaysM
import Derived.Shelf.LaysC
import Derived.Test.YtociicfjhgfgpaaGreatDoorProg
import Derived.Lib.Slices
import Derived.Lib.Walk
import Derived.Lib.Builder
import Derived.Lib.AppendStr
import Derived.Lib.UnsafeStr
import Derived.WalkKit
import Derived.Laws.Externs
import Derived.Laws.IdiomCopy
import Derived.Laws.BitsLemmas
import Derived.RangeFuncOwn
set_option linter.unusedVariables false
set_option linter.unusedSimpArgs false
set_option maxHeartbeats 2000000
set_option maxRecDepth 100000
namespace Go.Proofs.YtociicfjhgfgpaaGreatDoor
open Go.Shelf
def Lz.lays160_ren : Go.Shelf.Ren := ⟨fun | 160 => 198 | 232 => 221 | 231 => 220 | 227 => 222 | 234 => 224 | 233 => 223 | 236 => 226 | 235 => 225 | 228 => 237 | 271 => 240 | 151 => 239 | 197 => 238 | 120 => 256 | 152 => 255 | 260 => 254 | 137 => 274 | 119 => 275 | 224 => 276 | 225 => 277 | 217 => 287 | 266 => 289 | n => n, fun | 9 => 9 | 4 => 4 | 3 => 3 | 5 => 5 | 117 => 271 | 116 => 270 | 0 => 0 | 124 => 274 | 21 => 21 | 105 => 289 | 46 => 256 | 119 => 324 | 139 => 327 | 138 => 326 | n => n, fun | 3 => 6 | 4 => 7 | n => n⟩
theorem Lz.lays160 : Go.Proofs.Lays.n160 Tryz.prog Lz.lays160_ren := {
 mixed := by kernel_rfl
 f119 := Tryz.func275.trans (congrArg some (by kernel_rfl))
 f120 := Tryz.func256.trans (congrArg some (by kernel_rfl))
 f137 := Tryz.func274.trans (congrArg some (by kernel_rfl))
 f151 := Tryz.func239.trans (congrArg some (by kernel_rfl))
 f152 := Tryz.func255.trans (congrArg some (by kernel_rfl))
 f160 := Tryz.func198.trans (congrArg some (by kernel_rfl))
 f197 := Tryz.func238.trans (congrArg some (by kernel_rfl))
 f217 := Tryz.func287.trans (congrArg some (by kernel_rfl))
 f224 := Tryz.func276.trans (congrArg some (by kernel_rfl))
 f225 := Tryz.func277.trans (congrArg some (by kernel_rfl))
 f227 := Tryz.func222.trans (congrArg some (by kernel_rfl))
 f228 := Tryz.func237.trans (congrArg some (by kernel_rfl))
 f231 := Tryz.func220.trans (congrArg some (by kernel_rfl))
 f232 := Tryz.func221.trans (congrArg some (by kernel_rfl))
 f233 := Tryz.func223.trans (congrArg some (by kernel_rfl))
 f234 := Tryz.func224.trans (congrArg some (by kernel_rfl))
 f235 := Tryz.func225.trans (congrArg some (by kernel_rfl))
 f236 := Tryz.func226.trans (congrArg some (by kernel_rfl))
 f260 := Tryz.func254.trans (congrArg some (by kernel_rfl))
 f266 := Tryz.func289.trans (congrArg some (by kernel_rfl))
 f271 := Tryz.func240.trans (congrArg some (by kernel_rfl))
 t0 := Tryz.underlying0
 a0 := Tryz.isAgg0
 z0 := Tryz.sizeOf0
 v0 := Tryz.zeroValue0
 t3 := Tryz.underlying3
 a3 := Tryz.isAgg3
 z3 := Tryz.sizeOf3
 v3 := Tryz.zeroValue3
 t4 := Tryz.underlying4
 a4 := Tryz.isAgg4
 z4 := Tryz.sizeOf4
 v4 := Tryz.zeroValue4
 t5 := Tryz.underlying5
 a5 := Tryz.isAgg5
 z5 := Tryz.sizeOf5
 v5 := Tryz.zeroValue5
 t9 := Tryz.underlying9
 a9 := Tryz.isAgg9
 z9 := Tryz.sizeOf9
 v9 := Tryz.zeroValue9
 t21 := Tryz.underlying21
 a21 := Tryz.isAgg21
 z21 := Tryz.sizeOf21
 v21 := Tryz.zeroValue21
 t46 := Tryz.underlying256
 a46 := Tryz.isAgg256
 z46 := Tryz.sizeOf256
 v46 := Tryz.zeroValue256
 t105 := Tryz.underlying289
 a105 := Tryz.isAgg289
 z105 := Tryz.sizeOf289
 v105 := Tryz.zeroValue289
 t116 := Tryz.underlying270
 a116 := Tryz.isAgg270
 z116 := Tryz.sizeOf270
 t117 := Tryz.underlying271
 a117 := Tryz.isAgg271
 z117 := Tryz.sizeOf271
 v117 := Tryz.zeroValue271
 t119 := Tryz.underlying324
 a119 := Tryz.isAgg324
 z119 := Tryz.sizeOf324
 t124 := Tryz.underlying274
 a124 := Tryz.isAgg274
 z124 := Tryz.sizeOf274
 v124 := Tryz.zeroValue274
 t138 := Tryz.underlying326
 a138 := Tryz.isAgg326
 z138 := Tryz.sizeOf326
 v138 := Tryz.zeroValue326
 t139 := Tryz.underlying327
 a139 := Tryz.isAgg327
 z139 := Tryz.sizeOf327
 v139 := Tryz.zeroValue327
 g3 := by kernel_rfl
 g4 := by kernel_rfl }
def Lz.laysM171_ren : Go.Shelf.Ren := ⟨fun | 171 => 173 | 243 => 202 | 246 => 229 | 283 => 246 | 284 => 247 | 285 => 248 | 286 => 249 | 129 => 261 | 317 => 260 | 318 => 262 | 319 => 263 | 320 => 264 | 337 => 280 | 338 => 281 | n => n, fun | 3 => 3 | 9 => 9 | 2 => 2 | 4 => 4 | 171 => 298 | 0 => 0 | 53 => 280 | 37 => 226 | 5 => 5 | 173 => 301 | 212 => 313 | 51 => 277 | 20 => 20 | 213 => 314 | 46 => 256 | 232 => 340 | 233 => 341 | n => n, fun | 17 => 4 | 18 => 8 | 19 => 9 | n => n⟩
theorem Lz.laysM171 : Go.Proofs.LaysM.n171 Tryz.prog Lz.laysM171_ren := {
 mixed := by kernel_rfl
 f129 := Tryz.func261.trans (congrArg some (by kernel_rfl))
 f171 := Tryz.func173.trans (congrArg some (by kernel_rfl))
 f243 := Tryz.func202.trans (congrArg some (by kernel_rfl))
 f246 := Tryz.func229.trans (congrArg some (by kernel_rfl))
 f283 := Tryz.func246.trans (congrArg some (by kernel_rfl))
 f284 := Tryz.func247.trans (congrArg some (by kernel_rfl))
 f285 := Tryz.func248.trans (congrArg some (by kernel_rfl))
 f286 := Tryz.func249.trans (congrArg some (by kernel_rfl))
 f317 := Tryz.func260.trans (congrArg some (by kernel_rfl))
 f318 := Tryz.func262.trans (congrArg some (by kernel_rfl))
 f319 := Tryz.func263.trans (congrArg some (by kernel_rfl))
 f320 := Tryz.func264.trans (congrArg some (by kernel_rfl))
 f337 := Tryz.func280.trans (congrArg some (by kernel_rfl))
 f338 := Tryz.func281.trans (congrArg some (by kernel_rfl))
 t0 := Tryz.underlying0
 a0 := Tryz.isAgg0
 z0 := Tryz.sizeOf0
 v0 := Tryz.zeroValue0
 t2 := Tryz.underlying2
 a2 := Tryz.isAgg2
 z2 := Tryz.sizeOf2
 v2 := Tryz.zeroValue2
 t3 := Tryz.underlying3
 a3 := Tryz.isAgg3
 z3 := Tryz.sizeOf3
 v3 := Tryz.zeroValue3
 t4 := Tryz.underlying4
 a4 := Tryz.isAgg4
 z4 := Tryz.sizeOf4
 v4 := Tryz.zeroValue4
 t5 := Tryz.underlying5
 a5 := Tryz.isAgg5
 z5 := Tryz.sizeOf5
 v5 := Tryz.zeroValue5
 t9 := Tryz.underlying9
 a9 := Tryz.isAgg9
 z9 := Tryz.sizeOf9
 v9 := Tryz.zeroValue9
 t20 := Tryz.underlying20
 a20 := Tryz.isAgg20
 z20 := Tryz.sizeOf20
 v20 := Tryz.zeroValue20
 t37 := Tryz.underlying226
 a37 := Tryz.isAgg226
 z37 := Tryz.sizeOf226
 v37 := Tryz.zeroValue226
 t46 := Tryz.underlying256
 a46 := Tryz.isAgg256
 z46 := Tryz.sizeOf256
 v46 := Tryz.zeroValue256
 t51 := Tryz.underlying277
 a51 := Tryz.isAgg277
 z51 := Tryz.sizeOf277
 v51 := Tryz.zeroValue277
 t53 := Tryz.underlying280
 a53 := Tryz.isAgg280
 z53 := Tryz.sizeOf280
 v53 := Tryz.zeroValue280
 t171 := Tryz.underlying298
 a171 := Tryz.isAgg298
 z171 := Tryz.sizeOf298
 v171 := Tryz.zeroValue298
 t173 := Tryz.underlying301
 a173 := Tryz.isAgg301
 z173 := Tryz.sizeOf301
 v173 := Tryz.zeroValue301
 t212 := Tryz.underlying313
 a212 := Tryz.isAgg313
 z212 := Tryz.sizeOf313
 v212 := Tryz.zeroValue313
 t213 := Tryz.underlying314
 a213 := Tryz.isAgg314
 z213 := Tryz.sizeOf314
 t232 := Tryz.underlying340
 a232 := Tryz.isAgg340
 z232 := Tryz.sizeOf340
 v232 := Tryz.zeroValue340
 t233 := Tryz.underlying341
 a233 := Tryz.isAgg341
 z233 := Tryz.sizeOf341
 v233 := Tryz.zeroValue341
 g17 := by kernel_rfl
 g18 := by kernel_rfl
 g19 := by kernel_rfl
 i0 := by kernel_rfl
 i2 := by kernel_rfl
 i3 := by kernel_rfl
 i4 := by kernel_rfl
 i5 := by kernel_rfl
 i9 := by kernel_rfl
 i20 := by kernel_rfl
 i37 := by kernel_rfl
 i46 := by kernel_rfl
 i51 := by kernel_rfl
 i53 := by kernel_rfl
 i171 := by kernel_rfl
 i173 := by kernel_rfl
 i212 := by kernel_rfl
 i232 := by kernel_rfl
 i233 := by kernel_rfl
 m17 := by kernel_rfl
 m18 := by kernel_rfl
 m19 := by kernel_rfl }
open Go.RowKit Go.Sort Go.Lib in
theorem Lz.strconv_Itoa (n : Int) (h0 : -9223372036854775808 ≤ n) (h1 : n ≤ 9223372036854775807) (w : World) (htab : Lib.TabIs Tryz.prog w "internal/strconv.uint64pow10" .u64 Lib.pow10Tab) :
  Calls Tryz.prog 173 #[.int .i64 n] w fun e w' => e = .returned (.string ⟨(Lib.itoa n).toArray⟩) ∧ ∃ k os, w' = grow (w.drewN k) os := Any.strconv_Itoa Lz.laysM171 n h0 h1 w htab
def Lz.laysC172_ren : Go.Shelf.Ren := ⟨fun | 172 => 199 | 244 => 227 | 245 => 228 | 247 => 241 | 279 => 242 | 280 => 243 | 281 => 244 | 282 => 245 | 287 => 257 | 316 => 258 | 171 => 173 | 205 => 259 | 321 => 278 | 322 => 279 | 243 => 202 | 246 => 229 | 283 => 246 | 284 => 247 | 285 => 248 | 286 => 249 | 129 => 261 | 317 => 260 | 318 => 262 | 319 => 263 | 320 => 264 | 337 => 280 | 338 => 281 | n => n, fun | 9 => 9 | 3 => 3 | 75 => 126 | 76 => 230 | 4 => 4 | 5 => 5 | 167 => 292 | 37 => 226 | 0 => 0 | 85 => 293 | 2 => 2 | 168 => 295 | 53 => 280 | 175 => 307 | 46 => 256 | 210 => 310 | 127 => 262 | 145 => 333 | 143 => 331 | 21 => 21 | 171 => 298 | 173 => 301 | 212 => 313 | 51 => 277 | 20 => 20 | 213 => 314 | 232 => 340 | 233 => 341 | 80 => 232 | n => n, fun | 15 => 2 | 16 => 3 | 17 => 4 | 18 => 8 | 19 => 9 | n => n⟩
theorem Lz.laysC172 : Go.Proofs.LaysC.n172 Tryz.prog Lz.laysC172_ren := {
 mixed := by kernel_rfl
 f129 := Tryz.func261.trans (congrArg some (by kernel_rfl))
 f171 := Tryz.func173.trans (congrArg some (by kernel_rfl))
 f172 := Tryz.func199.trans (congrArg some (by kernel_rfl))
 f205 := Tryz.func259.trans (congrArg some (by kernel_rfl))
 f243 := Tryz.func202.trans (congrArg some (by kernel_rfl))
 f244 := Tryz.func227.trans (congrArg some (by kernel_rfl))
 f245 := Tryz.func228.trans (congrArg some (by kernel_rfl))
 f246 := Tryz.func229.trans (congrArg some (by kernel_rfl))
 f247 := Tryz.func241.trans (congrArg some (by kernel_rfl))
 f279 := Tryz.func242.trans (congrArg some (by kernel_rfl))
 f280 := Tryz.func243.trans (congrArg some (by kernel_rfl))
 f281 := Tryz.func244.trans (congrArg some (by kernel_rfl))
 f282 := Tryz.func245.trans (congrArg some (by kernel_rfl))
 f283 := Tryz.func246.trans (congrArg some (by kernel_rfl))
 f284 := Tryz.func247.trans (congrArg some (by kernel_rfl))
 f285 := Tryz.func248.trans (congrArg some (by kernel_rfl))
 f286 := Tryz.func249.trans (congrArg some (by kernel_rfl))
 f287 := Tryz.func257.trans (congrArg some (by kernel_rfl))
 f316 := Tryz.func258.trans (congrArg some (by kernel_rfl))
 f317 := Tryz.func260.trans (congrArg some (by kernel_rfl))
 f318 := Tryz.func262.trans (congrArg some (by kernel_rfl))
 f319 := Tryz.func263.trans (congrArg some (by kernel_rfl))
 f320 := Tryz.func264.trans (congrArg some (by kernel_rfl))
 f321 := Tryz.func278.trans (congrArg some (by kernel_rfl))
 f322 := Tryz.func279.trans (congrArg some (by kernel_rfl))
 f337 := Tryz.func280.trans (congrArg some (by kernel_rfl))
 f338 := Tryz.func281.trans (congrArg some (by kernel_rfl))
 t0 := Tryz.underlying0
 a0 := Tryz.isAgg0
 z0 := Tryz.sizeOf0
 v0 := Tryz.zeroValue0
 t2 := Tryz.underlying2
 a2 := Tryz.isAgg2
 z2 := Tryz.sizeOf2
 v2 := Tryz.zeroValue2
 t3 := Tryz.underlying3
 a3 := Tryz.isAgg3
 z3 := Tryz.sizeOf3
 v3 := Tryz.zeroValue3
 t4 := Tryz.underlying4
 a4 := Tryz.isAgg4
 z4 := Tryz.sizeOf4
 v4 := Tryz.zeroValue4
 t5 := Tryz.underlying5
 a5 := Tryz.isAgg5
 z5 := Tryz.sizeOf5
 v5 := Tryz.zeroValue5
 t9 := Tryz.underlying9
 a9 := Tryz.isAgg9
 z9 := Tryz.sizeOf9
 v9 := Tryz.zeroValue9
 t20 := Tryz.underlying20
 a20 := Tryz.isAgg20
 z20 := Tryz.sizeOf20
 v20 := Tryz.zeroValue20
 t21 := Tryz.underlying21
 a21 := Tryz.isAgg21
 z21 := Tryz.sizeOf21
 v21 := Tryz.zeroValue21
 t37 := Tryz.underlying226
 a37 := Tryz.isAgg226
 z37 := Tryz.sizeOf226
 v37 := Tryz.zeroValue226
 t46 := Tryz.underlying256
 a46 := Tryz.isAgg256
 z46 := Tryz.sizeOf256
 v46 := Tryz.zeroValue256
 t51 := Tryz.underlying277
 a51 := Tryz.isAgg277
 z51 := Tryz.sizeOf277
 v51 := Tryz.zeroValue277
 t53 := Tryz.underlying280
 a53 := Tryz.isAgg280
 z53 := Tryz.sizeOf280
 v53 := Tryz.zeroValue280
 t75 := Tryz.underlying126
 a75 := Tryz.isAgg126
 z75 := Tryz.sizeOf126
 v75 := Tryz.zeroValue126
 t76 := Tryz.underlying230
 a76 := Tryz.isAgg230
 z76 := Tryz.sizeOf230
 v76 := Tryz.zeroValue230
 t85 := Tryz.underlying293
 a85 := Tryz.isAgg293
 z85 := Tryz.sizeOf293
 v85 := Tryz.zeroValue293
 t127 := Tryz.underlying262
 a127 := Tryz.isAgg262
 z127 := Tryz.sizeOf262
 v127 := Tryz.zeroValue262
 t143 := Tryz.underlying331
 a143 := Tryz.isAgg331
 z143 := Tryz.sizeOf331
 v143 := Tryz.zeroValue331
 t145 := Tryz.underlying333
 a145 := Tryz.isAgg333
 z145 := Tryz.sizeOf333
 v145 := Tryz.zeroValue333
 t167 := Tryz.underlying292
 a167 := Tryz.isAgg292
 z167 := Tryz.sizeOf292
 v167 := Tryz.zeroValue292
 t168 := Tryz.underlying295
 a168 := Tryz.isAgg295
 z168 := Tryz.sizeOf295
 v168 := Tryz.zeroValue295
 t171 := Tryz.underlying298
 a171 := Tryz.isAgg298
 z171 := Tryz.sizeOf298
 v171 := Tryz.zeroValue298
 t173 := Tryz.underlying301
 a173 := Tryz.isAgg301
 z173 := Tryz.sizeOf301
 v173 := Tryz.zeroValue301
 t175 := Tryz.underlying307
 a175 := Tryz.isAgg307
 z175 := Tryz.sizeOf307
 v175 := Tryz.zeroValue307
 t210 := Tryz.underlying310
 a210 := Tryz.isAgg310
 z210 := Tryz.sizeOf310
 v210 := Tryz.zeroValue310
 t212 := Tryz.underlying313
 a212 := Tryz.isAgg313
 z212 := Tryz.sizeOf313
 v212 := Tryz.zeroValue313
 t213 := Tryz.underlying314
 a213 := Tryz.isAgg314
 z213 := Tryz.sizeOf314
 t232 := Tryz.underlying340
 a232 := Tryz.isAgg340
 z232 := Tryz.sizeOf340
 v232 := Tryz.zeroValue340
 t233 := Tryz.underlying341
 a233 := Tryz.isAgg341
 z233 := Tryz.sizeOf341
 v233 := Tryz.zeroValue341
 g15 := by kernel_rfl
 g16 := by kernel_rfl
 g17 := by kernel_rfl
 g18 := by kernel_rfl
 g19 := by kernel_rfl
 t80 := Tryz.underlying232
 a80 := Tryz.isAgg232
 z80 := Tryz.sizeOf232
 v80 := Tryz.zeroValue232
 i0 := by kernel_rfl
 i2 := by kernel_rfl
 i3 := by kernel_rfl
 i4 := by kernel_rfl
 i5 := by kernel_rfl
 i9 := by kernel_rfl
 i20 := by kernel_rfl
 i21 := by kernel_rfl
 i37 := by kernel_rfl
 i46 := by kernel_rfl
 i51 := by kernel_rfl
 i53 := by kernel_rfl
 i75 := by kernel_rfl
 i76 := by kernel_rfl
 i80 := by kernel_rfl
 i85 := by kernel_rfl
 i127 := by kernel_rfl
 i143 := by kernel_rfl
 i145 := by kernel_rfl
 i167 := by kernel_rfl
 i168 := by kernel_rfl
 i171 := by kernel_rfl
 i173 := by kernel_rfl
 i175 := by kernel_rfl
 i210 := by kernel_rfl
 i212 := by kernel_rfl
 i232 := by kernel_rfl
 i233 := by kernel_rfl
 m15 := by kernel_rfl
 m16 := by kernel_rfl
 m17 := by kernel_rfl
 m18 := by kernel_rfl
 m19 := by kernel_rfl
 c0 := by kernel_rfl
 c2 := by kernel_rfl
 c3 := by kernel_rfl
 c4 := by kernel_rfl
 c5 := by kernel_rfl
 c9 := by kernel_rfl
 c20 := by kernel_rfl
 c21 := by kernel_rfl
 c37 := by kernel_rfl
 c46 := by kernel_rfl
 c51 := by kernel_rfl
 c53 := by kernel_rfl
 c75 := by kernel_rfl
 c76 := by kernel_rfl
 c80 := by kernel_rfl
 c85 := by kernel_rfl
 c127 := by kernel_rfl
 c143 := by kernel_rfl
 c145 := by kernel_rfl
 c167 := by kernel_rfl
 c168 := by kernel_rfl
 c171 := by kernel_rfl
 c173 := by kernel_rfl
 c175 := by kernel_rfl
 c210 := by kernel_rfl
 c212 := by kernel_rfl
 c213 := by kernel_rfl
 c232 := by kernel_rfl
 c233 := by kernel_rfl }
open Go.RowKit in
theorem Lz.strconv_Atoi_ok (s : ByteArray) (hmax : s.size ≤ 9223372036854775806) (v : Int) (h : Lib.atoiAll s.data.toList = .ok v) (w : World) :
  Calls Tryz.prog 199 #[.string s] w fun e w' => e = .returned (.tuple #[.int .i64 v, .nilIface]) ∧ (w' = w ∨ ∃ t, w' = Lib.bytesWorld w 5 t) := Any.strconv_Atoi_ok Lz.laysC172 s hmax v h w
def Lz.lays101_ren : Go.Shelf.Ren := ⟨fun | 101 => 197 | 208 => 219 | 206 => 232 | n => n, fun | 9 => 9 | 4 => 4 | 3 => 3 | n => n, fun | n => n⟩
theorem Lz.lays101 : Go.Proofs.Lays.n101 Tryz.prog Lz.lays101_ren := {
 mixed := by kernel_rfl
 f101 := Tryz.func197.trans (congrArg some (by kernel_rfl))
 f206 := Tryz.func232.trans (congrArg some (by kernel_rfl))
 f208 := Tryz.func219.trans (congrArg some (by kernel_rfl))
 t3 := Tryz.underlying3
 a3 := Tryz.isAgg3
 z3 := Tryz.sizeOf3
 v3 := Tryz.zeroValue3
 t4 := Tryz.underlying4
 a4 := Tryz.isAgg4
 z4 := Tryz.sizeOf4
 v4 := Tryz.zeroValue4
 t9 := Tryz.underlying9
 a9 := Tryz.isAgg9
 z9 := Tryz.sizeOf9
 v9 := Tryz.zeroValue9 }
open Go.RowKit Go.Lib in
theorem Lz.strings_TrimPrefix (s p : ByteArray) (w : World) :
  Calls Tryz.prog 197 #[.string s, .string p] w fun e w' => e = .returned (.string ⟨(Lib.trimPrefix s.data.toList p.data.toList).toArray⟩) ∧ w' = w := Any.strings_TrimPrefix Lz.lays101 s p w
def Lz.lays105_ren : Go.Shelf.Ren := ⟨fun | 105 => 174 | 212 => 203 | 99 => 204 | 165 => 205 | 166 => 175 | 170 => 206 | 169 => 176 | 263 => 230 | 264 => 231 | 206 => 232 | 240 => 207 | 241 => 233 | 276 => 234 | 277 => 250 | n => n, fun | 9 => 9 | 3 => 3 | 4 => 4 | 20 => 20 | 0 => 0 | 46 => 256 | 109 => 257 | 5 => 5 | 72 => 228 | 76 => 230 | 51 => 277 | 146 => 278 | 53 => 280 | 148 => 281 | 70 => 225 | 37 => 226 | 75 => 126 | 127 => 262 | 164 => 283 | 80 => 232 | n => n, fun | n => n⟩
theorem Lz.lays105 : Go.Proofs.Lays.n105 Tryz.prog Lz.lays105_ren := {
 mixed := by kernel_rfl
 f99 := Tryz.func204.trans (congrArg some (by kernel_rfl))
 f105 := Tryz.func174.trans (congrArg some (by kernel_rfl))
 f165 := Tryz.func205.trans (congrArg some (by kernel_rfl))
 f166 := Tryz.func175.trans (congrArg some (by kernel_rfl))
 f169 := Tryz.func176.trans (congrArg some (by kernel_rfl))
 f170 := Tryz.func206.trans (congrArg some (by kernel_rfl))
 f206 := Tryz.func232.trans (congrArg some (by kernel_rfl))
 f212 := Tryz.func203.trans (congrArg some (by kernel_rfl))
 f240 := Tryz.func207.trans (congrArg some (by kernel_rfl))
 f241 := Tryz.func233.trans (congrArg some (by kernel_rfl))
 f263 := Tryz.func230.trans (congrArg some (by kernel_rfl))
 f264 := Tryz.func231.trans (congrArg some (by kernel_rfl))
 f276 := Tryz.func234.trans (congrArg some (by kernel_rfl))
 f277 := Tryz.func250.trans (congrArg some (by kernel_rfl))
 t0 := Tryz.underlying0
 a0 := Tryz.isAgg0
 z0 := Tryz.sizeOf0
 v0 := Tryz.zeroValue0
 t3 := Tryz.underlying3
 a3 := Tryz.isAgg3
 z3 := Tryz.sizeOf3
 v3 := Tryz.zeroValue3
 t4 := Tryz.underlying4
 a4 := Tryz.isAgg4
 z4 := Tryz.sizeOf4
 v4 := Tryz.zeroValue4
 t5 := Tryz.underlying5
 a5 := Tryz.isAgg5
 z5 := Tryz.sizeOf5
 v5 := Tryz.zeroValue5
 t9 := Tryz.underlying9
 a9 := Tryz.isAgg9
 z9 := Tryz.sizeOf9
 v9 := Tryz.zeroValue9
 t20 := Tryz.underlying20
 a20 := Tryz.isAgg20
 z20 := Tryz.sizeOf20
 v20 := Tryz.zeroValue20
 t37 := Tryz.underlying226
 a37 := Tryz.isAgg226
 z37 := Tryz.sizeOf226
 v37 := Tryz.zeroValue226
 t46 := Tryz.underlying256
 a46 := Tryz.isAgg256
 z46 := Tryz.sizeOf256
 v46 := Tryz.zeroValue256
 t51 := Tryz.underlying277
 a51 := Tryz.isAgg277
 z51 := Tryz.sizeOf277
 v51 := Tryz.zeroValue277
 t53 := Tryz.underlying280
 a53 := Tryz.isAgg280
 z53 := Tryz.sizeOf280
 v53 := Tryz.zeroValue280
 t70 := Tryz.underlying225
 a70 := Tryz.isAgg225
 z70 := Tryz.sizeOf225
 v70 := Tryz.zeroValue225
 t72 := Tryz.underlying228
 a72 := Tryz.isAgg228
 z72 := Tryz.sizeOf228
 v72 := Tryz.zeroValue228
 t75 := Tryz.underlying126
 a75 := Tryz.isAgg126
 z75 := Tryz.sizeOf126
 v75 := Tryz.zeroValue126
 t76 := Tryz.underlying230
 a76 := Tryz.isAgg230
 z76 := Tryz.sizeOf230
 v76 := Tryz.zeroValue230
 t109 := Tryz.underlying257
 a109 := Tryz.isAgg257
 z109 := Tryz.sizeOf257
 v109 := Tryz.zeroValue257
 t127 := Tryz.underlying262
 a127 := Tryz.isAgg262
 z127 := Tryz.sizeOf262
 v127 := Tryz.zeroValue262
 t146 := Tryz.underlying278
 a146 := Tryz.isAgg278
 z146 := Tryz.sizeOf278
 v146 := Tryz.zeroValue278
 t148 := Tryz.underlying281
 a148 := Tryz.isAgg281
 z148 := Tryz.sizeOf281
 v148 := Tryz.zeroValue281
 t164 := Tryz.underlying283
 a164 := Tryz.isAgg283
 z164 := Tryz.sizeOf283
 v164 := Tryz.zeroValue283 }
theorem Lz.Builder_Extra_105 : Builder.Extra Tryz.prog Lz.lays105_ren := {
 sizeBuilder := by kernel_rfl
 liesBuilder := by kernel_rfl
 t5 := Tryz.underlying5
 a5 := Tryz.isAgg5
 z5 := Tryz.sizeOf5
 v5 := Tryz.zeroValue5
 infoByte := by kernel_rfl
 cellsByte := by kernel_rfl
 sizeByte := by kernel_rfl
 neB5 := by decide }
open Go.RowKit Go.Lib in
theorem Lz.strings_Repeat (s : ByteArray) (c : Nat) (w : World) (hc : c ≤ 9223372036854775807) (hlen : s.size * c ≤ 140737488355328) :
  Calls Tryz.prog 174 #[.string s, .int .i64 c] w fun e w' => e = .returned (.string ⟨(Lib.repeatL s.data.toList c).toArray⟩) ∧ Below w.heap.size w w' := Any.strings_Repeat Lz.lays105 Lz.Builder_Extra_105 s c w hc hlen
section
open Go.RowKit
theorem Lz.strings_Trim (s : ByteArray) (w : World) (hs : s.size ≤ 9223372036854775807) :
  Calls Tryz.prog 198 #[.string s, .string ⟨#[48, 49, 50, 51, 52, 53, 54, 55, 56, 57]⟩] w fun e w' => e = .returned (.string ⟨(Lib.trimS s.data.toList [48, 49, 50, 51, 52, 53, 54, 55, 56, 57]).toArray⟩) ∧ Below w.heap.size w w' :=
 Any.strings_Trim_laid Lz.lays160 (by kernel_rfl) s ⟨#[48, 49, 50, 51, 52, 53, 54, 55, 56, 57]⟩ w hs (by decide) (ascii_of_all (by decide))
end
end Go.Proofs.YtociicfjhgfgpaaGreatDoor
namespace Go.Proofs.YtociicfjhgfgpaaGreatDoor
open Go.RowKit Go.Shelf
def KB (b : Nat) (w w' : World) : Prop := ∀ (k : Nat) (cs : Array Value) (t : TypeId), w.heap[k]? = some (.cells cs t) → t ≠ 5 → k ≠ b → w'.heap[k]? = some (.cells cs t)
theorem KB.refl (b : Nat) (w : World) : KB b w w := fun _ _ _ h _ _ => h
theorem KB.trans {b : Nat} {w w' w'' : World} (h : KB b w w') (h' : KB b w' w'') : KB b w w'' := fun k cs t hk ht hb => h' k cs t (h k cs t hk ht hb) ht hb
theorem KB.setCell (b : Nat) (w : World) (i : Nat) (v : Value) : KB b w (w.setCell ⟨b, i, none⟩ v) := fun k cs t hk _ hb => (Below.heap_setCell w ⟨b, i, none⟩ v k hb).trans hk
theorem size228 : (Tryz.prog.info? 228).map (·.size) = some 2 := by kernel_rfl
theorem lies228 : liesAt Tryz.prog Tryz.prog.depth 228 (2 / Tryz.prog.cellsOf 228) 0 228 1 = true := by kernel_rfl
theorem infoByte : (Tryz.prog.info? 5).map (fun i => (i.zero, i.size, i.bytes)) = some (some (.int .u8 0), 1, 1) := by kernel_rfl
theorem bld_check_used (b : Nat) (w : World) (h0 : w.cell? ⟨b, 0, none⟩ = some (.pointer (some ⟨b, 0, none⟩))) :
  Calls Tryz.prog 207 #[.pointer (some ⟨b, 0, none⟩)] w fun e w' => e = .returned (.tuple #[]) ∧ w' = w := by
 obtain ⟨j, hj, _⟩ := Option.map_eq_some_iff.1 size228
 go_enter Tryz.func207, Tryz.ntmps207
 go_wp2
 rw [Lib.run_neq_ptr_same w _ Tryz.underlying225 hj]
 go_wp2
 go_end0
 exact ⟨rfl, rfl⟩
theorem bld_check_fresh (b : Nat) (w : World) (h0 : w.cell? ⟨b, 0, none⟩ = some (.pointer none)) (hsh : w.shape? b = some (228, 2)) (hfz : w.frozen? ⟨b, 0, none⟩ = false) :
  Calls Tryz.prog 207 #[.pointer (some ⟨b, 0, none⟩)] w fun e w' => e = .returned (.tuple #[]) ∧ w' = w.setCell ⟨b, 0, none⟩ (.pointer (some ⟨b, 0, none⟩)) := by
 obtain ⟨j, hj, hjs⟩ := Option.map_eq_some_iff.1 size228
 go_enter Tryz.func207, Tryz.ntmps207
 go_wp2
 rw [Lib.run_to_unsafe w ⟨b, 0, none⟩ Tryz.underlying225 Tryz.underlying283 hj (by rw [hjs]; decide) hsh (Nat.zero_lt_succ 1)]
 simp only [Result.andThen]
 rw [Oper.upon_value]
 go_wp2
 rw [run_callFunc_extern Tryz.func234 (by kernel_rfl) (by kernel_rfl) (by kernel_rfl) (e := Extern.AbiNoEscape.same) (by kernel_rfl)]
 rw [Lib.run_noEscape]
 simp only [Result.andThen]
 rw [Oper.upon_value]
 go_wp2
 rw [Lib.run_from_unsafe w ⟨b, 0, none⟩ Tryz.underlying283 Tryz.underlying225 hj hsh lies228]
 simp only [Result.andThen]
 rw [Oper.upon_value]
 go_wp2
 go_end0
 exact ⟨rfl, rfl⟩
theorem bld_check (B b : Nat) (bs : List Value) (w : World) (h : Lib.IsBuilder 228 5 B b bs w) :
  Calls Tryz.prog 207 #[.pointer (some ⟨b, 0, none⟩)] w fun e w' => e = .returned (.tuple #[]) ∧ (Lib.BuilderAt 228 5 B b (.pointer (some ⟨b, 0, none⟩)) bs w' ∧ Below B w w' ∧ KeepsOthers w w' ∧ KB b w w') := by
 rcases h with h | h
 ·refine (bld_check_fresh b w h.cell0 h.shape h.frozen0).mono ?_
  rintro e w' ⟨rfl, rfl⟩
  exact ⟨rfl, h.used _, (Below.refl B w).setCell (p := ⟨b, 0, none⟩) h.1 _, KeepsOthers.setCell _ _ _, KB.setCell _ _ _ _⟩
 ·refine (bld_check_used b w h.cell0).mono ?_
  rintro e w' ⟨rfl, rfl⟩
  exact ⟨rfl, h, Below.refl B _, KeepsOthers.refl _, KB.refl _ _⟩
theorem bld_write (B b : Nat) (bs : List Value) (s : ByteArray) (w : World) (h : Lib.IsBuilder 228 5 B b bs w) (hlen : bs.length + s.size ≤ 140737488355328) (hBw : B ≤ w.heap.size) :
  Calls Tryz.prog 175 #[.pointer (some ⟨b, 0, none⟩), .string s] w fun e w' => e = .returned (.tuple #[.int .i64 s.size, .nilIface]) ∧ (Lib.BuilderAt 228 5 B b (.pointer (some ⟨b, 0, none⟩)) (bs ++ Lib.strCells s) w' ∧ Below B w w' ∧ KeepsOthers w w' ∧ KB b w w') := by
 obtain ⟨i0, hi, hz0, hz1, hz2⟩ := info_parts infoByte
 go_enter Tryz.func175, Tryz.ntmps175
 go_wp2_with (go_at_call 207; refine (bld_check B b bs _ h).mono ?_)
 rintro e w1 ⟨rfl, h1, hb1, hK1, hKB1⟩
 obtain ⟨hB, v, hbk, hown, hne⟩ := h1
 have c0 : w1.cell? ⟨b, 0, none⟩ = some (.pointer (some ⟨b, 0, none⟩)) := by rw [Lib.cell_of_heap hbk]; rfl
 have c1 : w1.cell? ⟨b, 1, none⟩ = some v := by rw [Lib.cell_of_heap hbk]; rfl
 go_wp2_with (at_builtin; refine Lib.wpList_append_own_string _ rfl _ _ 226 9 rfl B 5 i0 Tryz.underlying226 Tryz.underlying9 hi hz0 hz1 hz2 _ _ _ rfl hown s rfl ?c3 ?c4 ?c5 ?_)
 case c3 => unfold maxLen; omega
 case c4 => omega
 case c5 => have := hb1.size; omega
 intro v' w2 hown' hgrow _
 have hlt : b < w1.heap.size := (Array.getElem?_eq_some_iff.1 hbk).1
 have hb2 : w2.heap[b]? = some (.cells #[.pointer (some ⟨b, 0, none⟩), v] 228 (0, 0)) := by
  rw [hgrow.block b hlt (fun e => hne e.symm)]
  exact hbk
 have d0 : w2.cell? ⟨b, 0, none⟩ = some (.pointer (some ⟨b, 0, none⟩)) := by rw [Lib.cell_of_heap hb2]; rfl
 have d1 : w2.cell? ⟨b, 1, none⟩ = some v := by rw [Lib.cell_of_heap hb2]; rfl
 have f1 : w2.frozen? ⟨b, 1, none⟩ = false := Lib.frozen_of_heap hb2 1
 obtain ⟨ao, n', cap, rfl⟩ : ∃ ao n' cap, v' = .slice ao n' cap := by
  rcases hown'.2 with ⟨hv, _⟩ | ⟨g, cap, cur, hv, _⟩
  ·exact ⟨_, _, _, hv⟩
  ·exact ⟨_, _, _, hv⟩
 go_wp2
 go_ret2
 refine ⟨rfl, ?_, ?_, ?_, ?_⟩
 ·exact Lib.BuilderAt.put (T := 228) (e := 5) hB hb2 (bs' := bs ++ Lib.strCells s) (by simpa [Lib.strCells_length] using hown') (by decide)
 ·exact (hb1.grown hgrow (by have := hb1.size; omega) (fun k hk => (hown.lt k hk).1)).setCell (p := ⟨b, 1, none⟩) hB _
 ·refine (hK1.trans (KeepsOthers.of_grownBy hgrow (fun j o hj ho => ?_))).trans (KeepsOthers.setCell _ _ _)
  rcases hown.2 with ⟨hv, _⟩ | ⟨g, cap, cur, hv, _, hgb, _⟩
  ·rw [hv] at hj; cases hj
  ·rw [hv] at hj
   cases hj
   rw [hgb] at ho
   cases ho
   rfl
 ·refine (hKB1.trans (fun k cs t hk ht _ => ?_)).trans (KB.setCell _ _ _ _)
  refine (hgrow.block k (Array.getElem?_eq_some_iff.1 hk).1 (fun e' => ?_)).trans hk
  rcases hown.2 with ⟨hv, _⟩ | ⟨g, cap, cur, hv, _, hgb, _⟩
  ·rw [hv] at e'; cases e'
  ·rw [hv] at e'
   cases e'
   rw [hgb] at hk
   cases hk
   exact ht rfl
end Go.Proofs.YtociicfjhgfgpaaGreatDoor
