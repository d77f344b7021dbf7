/- The law ReplyTells answers true at every input of its row and leaves its arguments as they were; conditions: those of the row alone (the listed tables of the library read as laid). A part of the proof. -/
import Derived.Test.YtokcllgekkhaaaaGreatDoorRT3
import Derived.Shelf.Strings.Builder1
import Derived.Shelf.Strings.Builder2
import Derived.Shelf.Strings.OnBuilder
import Derived.Shelf.Strings.Trim
import Derived.Shelf.Small.Utf8
import Derived.Shelf.Small.Bits
import Derived.Shelf.Small.Strs
import Derived.Shelf.Small.Wraps
import Derived.Shelf.Strings.BuilderF
import Derived.Shelf.Strconv.Itoa0
import Derived.Shelf.Strconv.Itoa1
import Derived.Shelf.LaysM
import Derived.Shelf.Strconv.Itoa2
import Derived.Shelf.Strconv.Itoa3
import Derived.Shelf.Strconv.Itoa4
import Derived.Shelf.Strings.Search1
import Derived.Shelf.Strings.Search2
import Derived.Shelf.Strings.Search3
import Derived.Shelf.Strings.Cut
import Derived.Shelf.Strings.Count
import Derived.Shelf.Strings.Shaped
import Derived.Shelf.Strings.Prefix
import Derived.Shelf.Strings.Split
import Derived.Shelf.Strings.Fields
import Derived.Shelf.Strings.Replace
import Derived.Shelf.Strings.SplitShaped
import Derived.Shelf.Unicode.Latin
import Derived.Shelf.Strings.Runes
import Derived.Shelf.Strings.AsciiSet
import Derived.Shelf.Bits.Mul64
import Derived.Shelf.Unicode.DecodeSlow
import Derived.Shelf.Unicode.Is16White
import Derived.Shelf.Unicode.IsSpaceAny
import Derived.Shelf.Unicode.Is16Any
import Derived.Shelf.Unicode.Is32Any
import Derived.Shelf.Unicode.ExclAny
namespace Go.Proofs
open Go.Shelf
def Tryz.lays156_ren : Go.Shelf.Ren := ⟨fun | 156 => 98 | 165 => 164 | 166 => 165 | 169 => 145 | 240 => 243 | 241 => 244 | 276 => 310 | 277 => 311 | n => n, fun | 31 => 167 | 9 => 9 | 3 => 3 | 4 => 4 | 0 => 0 | 20 => 20 | 72 => 240 | 76 => 255 | 70 => 237 | 37 => 238 | 75 => 254 | 127 => 331 | 164 => 393 | 5 => 5 | 80 => 242 | n => n, fun | n => n⟩
theorem Tryz.lays156 : Go.Proofs.Lays.n156 Tryz.prog Tryz.lays156_ren := {
  mixed := by kernel_rfl
  f156 := Tryz.func98.trans (congrArg some (by kernel_rfl))
  f165 := Tryz.func164.trans (congrArg some (by kernel_rfl))
  f166 := Tryz.func165.trans (congrArg some (by kernel_rfl))
  f169 := Tryz.func145.trans (congrArg some (by kernel_rfl))
  f240 := Tryz.func243.trans (congrArg some (by kernel_rfl))
  f241 := Tryz.func244.trans (congrArg some (by kernel_rfl))
  f276 := Tryz.func310.trans (congrArg some (by kernel_rfl))
  f277 := Tryz.func311.trans (congrArg some (by kernel_rfl))
  t0 := Tryz.underlying0
  a0 := Tryz.isAgg0
  z0 := Tryz.sizeOf0
  v0 := Tryz.zeroValue0
  t3 := Tryz.underlying3
  a3 := Tryz.isAgg3
  z3 := Tryz.sizeOf3
  v3 := Tryz.zeroValue3
  t4 := Tryz.underlying4
  a4 := Tryz.isAgg4
  z4 := Tryz.sizeOf4
  v4 := Tryz.zeroValue4
  t9 := Tryz.underlying9
  a9 := Tryz.isAgg9
  z9 := Tryz.sizeOf9
  v9 := Tryz.zeroValue9
  t20 := Tryz.underlying20
  a20 := Tryz.isAgg20
  z20 := Tryz.sizeOf20
  v20 := Tryz.zeroValue20
  t31 := Tryz.underlying167
  a31 := Tryz.isAgg167
  z31 := Tryz.sizeOf167
  v31 := Tryz.zeroValue167
  t37 := Tryz.underlying238
  a37 := Tryz.isAgg238
  z37 := Tryz.sizeOf238
  v37 := Tryz.zeroValue238
  t70 := Tryz.underlying237
  a70 := Tryz.isAgg237
  z70 := Tryz.sizeOf237
  v70 := Tryz.zeroValue237
  t72 := Tryz.underlying240
  a72 := Tryz.isAgg240
  z72 := Tryz.sizeOf240
  v72 := Tryz.zeroValue240
  t75 := Tryz.underlying254
  a75 := Tryz.isAgg254
  z75 := Tryz.sizeOf254
  v75 := Tryz.zeroValue254
  t76 := Tryz.underlying255
  a76 := Tryz.isAgg255
  z76 := Tryz.sizeOf255
  v76 := Tryz.zeroValue255
  t127 := Tryz.underlying331
  a127 := Tryz.isAgg331
  z127 := Tryz.sizeOf331
  v127 := Tryz.zeroValue331
  t164 := Tryz.underlying393
  a164 := Tryz.isAgg393
  z164 := Tryz.sizeOf393
  v164 := Tryz.zeroValue393 }
theorem Tryz.Builder_Extra_156 : Builder.Extra Tryz.prog Tryz.lays156_ren := {
  sizeBuilder := by kernel_rfl
  liesBuilder := by kernel_rfl
  t5 := Tryz.underlying5
  a5 := Tryz.isAgg5
  z5 := Tryz.sizeOf5
  v5 := Tryz.zeroValue5
  infoByte := by kernel_rfl
  cellsByte := by kernel_rfl
  sizeByte := by kernel_rfl
  neB5 := by decide }
open Go.RowKit in
theorem Tryz.strings_Join_none (a : Option Addr) (c : Nat) (sep : ByteArray) (w : World) :
    Calls Tryz.prog 98 #[.slice a 0 c, .string sep] w fun e w' => e = .returned (.string ⟨#[]⟩) ∧ w' = w := Any.strings_Join_none Tryz.lays156 Tryz.Builder_Extra_156 a c sep w
open Go.RowKit in
theorem Tryz.strings_Join (bk o c : Nat) (xs : List ByteArray) (sep : ByteArray) (w : World) (hcells : ∀ (j : Nat) x, xs[j]? = some x → w.cell? ⟨bk, o + j, none⟩ = some (.string x)) (hbk : bk < w.heap.size) (hN : xs.length ≤ 140737488355328) (hcap : xs.length ≤ c) (hlen : (Lib.join (xs.map (·.data.toList)) sep.data.toList).length ≤ 140737488355328) :
    Calls Tryz.prog 98 #[.slice (some ⟨bk, o, none⟩) xs.length c, .string sep] w fun e w' => e = .returned (.string ⟨(Lib.join (xs.map (·.data.toList)) sep.data.toList).toArray⟩) ∧ Below w.heap.size w w' := Any.strings_Join Tryz.lays156 Tryz.Builder_Extra_156 bk o c xs sep w hcells hbk hN hcap hlen
def Tryz.lays162_ren : Go.Shelf.Ren := ⟨fun | 162 => 242 | 232 => 306 | 227 => 307 | 234 => 308 | 236 => 309 | 228 => 342 | 271 => 343 | 151 => 344 | 120 => 366 | 197 => 337 | 152 => 367 | 260 => 360 | 137 => 379 | 119 => 380 | 224 => 374 | 225 => 373 | 217 => 372 | 266 => 381 | n => n, fun | 9 => 9 | 4 => 4 | 3 => 3 | 5 => 5 | 117 => 389 | 116 => 388 | 0 => 0 | 124 => 392 | 21 => 21 | 105 => 417 | 46 => 265 | 119 => 338 | 139 => 461 | 138 => 460 | n => n, fun | 3 => 6 | 4 => 7 | n => n⟩
theorem Tryz.lays162 : Go.Proofs.Lays.n162 Tryz.prog Tryz.lays162_ren := {
  mixed := by kernel_rfl
  f119 := Tryz.func380.trans (congrArg some (by kernel_rfl))
  f120 := Tryz.func366.trans (congrArg some (by kernel_rfl))
  f137 := Tryz.func379.trans (congrArg some (by kernel_rfl))
  f151 := Tryz.func344.trans (congrArg some (by kernel_rfl))
  f152 := Tryz.func367.trans (congrArg some (by kernel_rfl))
  f162 := Tryz.func242.trans (congrArg some (by kernel_rfl))
  f197 := Tryz.func337.trans (congrArg some (by kernel_rfl))
  f217 := Tryz.func372.trans (congrArg some (by kernel_rfl))
  f224 := Tryz.func374.trans (congrArg some (by kernel_rfl))
  f225 := Tryz.func373.trans (congrArg some (by kernel_rfl))
  f227 := Tryz.func307.trans (congrArg some (by kernel_rfl))
  f228 := Tryz.func342.trans (congrArg some (by kernel_rfl))
  f232 := Tryz.func306.trans (congrArg some (by kernel_rfl))
  f234 := Tryz.func308.trans (congrArg some (by kernel_rfl))
  f236 := Tryz.func309.trans (congrArg some (by kernel_rfl))
  f260 := Tryz.func360.trans (congrArg some (by kernel_rfl))
  f266 := Tryz.func381.trans (congrArg some (by kernel_rfl))
  f271 := Tryz.func343.trans (congrArg some (by kernel_rfl))
  t0 := Tryz.underlying0
  a0 := Tryz.isAgg0
  z0 := Tryz.sizeOf0
  v0 := Tryz.zeroValue0
  t3 := Tryz.underlying3
  a3 := Tryz.isAgg3
  z3 := Tryz.sizeOf3
  v3 := Tryz.zeroValue3
  t4 := Tryz.underlying4
  a4 := Tryz.isAgg4
  z4 := Tryz.sizeOf4
  v4 := Tryz.zeroValue4
  t5 := Tryz.underlying5
  a5 := Tryz.isAgg5
  z5 := Tryz.sizeOf5
  v5 := Tryz.zeroValue5
  t9 := Tryz.underlying9
  a9 := Tryz.isAgg9
  z9 := Tryz.sizeOf9
  v9 := Tryz.zeroValue9
  t21 := Tryz.underlying21
  a21 := Tryz.isAgg21
  z21 := Tryz.sizeOf21
  v21 := Tryz.zeroValue21
  t46 := Tryz.underlying265
  a46 := Tryz.isAgg265
  z46 := Tryz.sizeOf265
  v46 := Tryz.zeroValue265
  t105 := Tryz.underlying417
  a105 := Tryz.isAgg417
  z105 := Tryz.sizeOf417
  v105 := Tryz.zeroValue417
  t116 := Tryz.underlying388
  a116 := Tryz.isAgg388
  z116 := Tryz.sizeOf388
  t117 := Tryz.underlying389
  a117 := Tryz.isAgg389
  z117 := Tryz.sizeOf389
  v117 := Tryz.zeroValue389
  t119 := Tryz.underlying338
  a119 := Tryz.isAgg338
  z119 := Tryz.sizeOf338
  t124 := Tryz.underlying392
  a124 := Tryz.isAgg392
  z124 := Tryz.sizeOf392
  v124 := Tryz.zeroValue392
  t138 := Tryz.underlying460
  a138 := Tryz.isAgg460
  z138 := Tryz.sizeOf460
  v138 := Tryz.zeroValue460
  t139 := Tryz.underlying461
  a139 := Tryz.isAgg461
  z139 := Tryz.sizeOf461
  v139 := Tryz.zeroValue461
  g3 := by kernel_rfl
  g4 := by kernel_rfl }
open Go.RowKit in
theorem Tryz.strings_TrimRight_one (s : ByteArray) (c : UInt8) (hc : c.toNat < 128) (w : World) (hs : s.size ≤ 9223372036854775807) :
    Calls Tryz.prog 242 #[.string s, .string ⟨#[c]⟩] w fun e w' => e = .returned (.string ⟨(Lib.trimRightB s.data.toList c).toArray⟩) ∧ w' = w := Any.strings_TrimRight_one Tryz.lays162 s c hc w hs
def Tryz.lays103_ren : Go.Shelf.Ren := ⟨fun | 103 => 112 | 210 => 188 | 206 => 269 | n => n, fun | 9 => 9 | 4 => 4 | 24 => 190 | 3 => 3 | n => n, fun | n => n⟩
theorem Tryz.lays103 : Go.Proofs.Lays.n103 Tryz.prog Tryz.lays103_ren := {
  mixed := by kernel_rfl
  f103 := Tryz.func112.trans (congrArg some (by kernel_rfl))
  f206 := Tryz.func269.trans (congrArg some (by kernel_rfl))
  f210 := Tryz.func188.trans (congrArg some (by kernel_rfl))
  t3 := Tryz.underlying3
  a3 := Tryz.isAgg3
  z3 := Tryz.sizeOf3
  v3 := Tryz.zeroValue3
  t4 := Tryz.underlying4
  a4 := Tryz.isAgg4
  z4 := Tryz.sizeOf4
  v4 := Tryz.zeroValue4
  t9 := Tryz.underlying9
  a9 := Tryz.isAgg9
  z9 := Tryz.sizeOf9
  v9 := Tryz.zeroValue9
  t24 := Tryz.underlying190
  a24 := Tryz.isAgg190
  z24 := Tryz.sizeOf190
  v24 := Tryz.zeroValue190 }
open Go.RowKit in
theorem Tryz.strings_CutPrefix (s p : ByteArray) (w : World) :
    Calls Tryz.prog 112 #[.string s, .string p] w fun e w' => e = .returned (.tuple #[.string ⟨(Lib.trimPrefix s.data.toList p.data.toList).toArray⟩, .bool (Lib.hasPrefix s.data.toList p.data.toList)]) ∧ w' = w := Any.strings_CutPrefix Tryz.lays103 s p w
def Tryz.laysM171_ren : Go.Shelf.Ren := ⟨fun | 171 => 233 | 243 => 303 | 246 => 305 | 283 => 338 | 284 => 339 | 285 => 340 | 286 => 341 | 129 => 362 | 317 => 361 | 318 => 363 | 319 => 364 | 320 => 365 | 337 => 377 | 338 => 378 | n => n, fun | 3 => 3 | 9 => 9 | 2 => 2 | 4 => 4 | 171 => 419 | 0 => 0 | 53 => 103 | 37 => 238 | 5 => 5 | 173 => 422 | 212 => 447 | 51 => 399 | 20 => 20 | 213 => 448 | 46 => 265 | 232 => 465 | 233 => 466 | n => n, fun | 17 => 3 | 18 => 8 | 19 => 9 | n => n⟩
theorem Tryz.laysM171 : Go.Proofs.LaysM.n171 Tryz.prog Tryz.laysM171_ren := {
  mixed := by kernel_rfl
  f129 := Tryz.func362.trans (congrArg some (by kernel_rfl))
  f171 := Tryz.func233.trans (congrArg some (by kernel_rfl))
  f243 := Tryz.func303.trans (congrArg some (by kernel_rfl))
  f246 := Tryz.func305.trans (congrArg some (by kernel_rfl))
  f283 := Tryz.func338.trans (congrArg some (by kernel_rfl))
  f284 := Tryz.func339.trans (congrArg some (by kernel_rfl))
  f285 := Tryz.func340.trans (congrArg some (by kernel_rfl))
  f286 := Tryz.func341.trans (congrArg some (by kernel_rfl))
  f317 := Tryz.func361.trans (congrArg some (by kernel_rfl))
  f318 := Tryz.func363.trans (congrArg some (by kernel_rfl))
  f319 := Tryz.func364.trans (congrArg some (by kernel_rfl))
  f320 := Tryz.func365.trans (congrArg some (by kernel_rfl))
  f337 := Tryz.func377.trans (congrArg some (by kernel_rfl))
  f338 := Tryz.func378.trans (congrArg some (by kernel_rfl))
  t0 := Tryz.underlying0
  a0 := Tryz.isAgg0
  z0 := Tryz.sizeOf0
  v0 := Tryz.zeroValue0
  t2 := Tryz.underlying2
  a2 := Tryz.isAgg2
  z2 := Tryz.sizeOf2
  v2 := Tryz.zeroValue2
  t3 := Tryz.underlying3
  a3 := Tryz.isAgg3
  z3 := Tryz.sizeOf3
  v3 := Tryz.zeroValue3
  t4 := Tryz.underlying4
  a4 := Tryz.isAgg4
  z4 := Tryz.sizeOf4
  v4 := Tryz.zeroValue4
  t5 := Tryz.underlying5
  a5 := Tryz.isAgg5
  z5 := Tryz.sizeOf5
  v5 := Tryz.zeroValue5
  t9 := Tryz.underlying9
  a9 := Tryz.isAgg9
  z9 := Tryz.sizeOf9
  v9 := Tryz.zeroValue9
  t20 := Tryz.underlying20
  a20 := Tryz.isAgg20
  z20 := Tryz.sizeOf20
  v20 := Tryz.zeroValue20
  t37 := Tryz.underlying238
  a37 := Tryz.isAgg238
  z37 := Tryz.sizeOf238
  v37 := Tryz.zeroValue238
  t46 := Tryz.underlying265
  a46 := Tryz.isAgg265
  z46 := Tryz.sizeOf265
  v46 := Tryz.zeroValue265
  t51 := Tryz.underlying399
  a51 := Tryz.isAgg399
  z51 := Tryz.sizeOf399
  v51 := Tryz.zeroValue399
  t53 := Tryz.underlying103
  a53 := Tryz.isAgg103
  z53 := Tryz.sizeOf103
  v53 := Tryz.zeroValue103
  t171 := Tryz.underlying419
  a171 := Tryz.isAgg419
  z171 := Tryz.sizeOf419
  v171 := Tryz.zeroValue419
  t173 := Tryz.underlying422
  a173 := Tryz.isAgg422
  z173 := Tryz.sizeOf422
  v173 := Tryz.zeroValue422
  t212 := Tryz.underlying447
  a212 := Tryz.isAgg447
  z212 := Tryz.sizeOf447
  v212 := Tryz.zeroValue447
  t213 := Tryz.underlying448
  a213 := Tryz.isAgg448
  z213 := Tryz.sizeOf448
  t232 := Tryz.underlying465
  a232 := Tryz.isAgg465
  z232 := Tryz.sizeOf465
  v232 := Tryz.zeroValue465
  t233 := Tryz.underlying466
  a233 := Tryz.isAgg466
  z233 := Tryz.sizeOf466
  v233 := Tryz.zeroValue466
  g17 := by kernel_rfl
  g18 := by kernel_rfl
  g19 := by kernel_rfl
  i0 := by kernel_rfl
  i2 := by kernel_rfl
  i3 := by kernel_rfl
  i4 := by kernel_rfl
  i5 := by kernel_rfl
  i9 := by kernel_rfl
  i20 := by kernel_rfl
  i37 := by kernel_rfl
  i46 := by kernel_rfl
  i51 := by kernel_rfl
  i53 := by kernel_rfl
  i171 := by kernel_rfl
  i173 := by kernel_rfl
  i212 := by kernel_rfl
  i232 := by kernel_rfl
  i233 := by kernel_rfl
  m17 := by kernel_rfl
  m18 := by kernel_rfl
  m19 := by kernel_rfl }
open Go.RowKit Go.Sort Go.Lib in
theorem Tryz.strconv_Itoa (n : Int) (h0 : -9223372036854775808 ≤ n) (h1 : n ≤ 9223372036854775807) (w : World) (htab : Lib.TabIs Tryz.prog w "internal/strconv.uint64pow10" .u64 Lib.pow10Tab) :
    Calls Tryz.prog 233 #[.int .i64 n] w fun e w' => e = .returned (.string ⟨(Lib.itoa n).toArray⟩) ∧ ∃ k os, w' = grow (w.drewN k) os := Any.strconv_Itoa Tryz.laysM171 n h0 h1 w htab
def Tryz.laysM173_ren : Go.Shelf.Ren := ⟨fun | 173 => 240 | 246 => 305 | 283 => 338 | 284 => 339 | 285 => 340 | 286 => 341 | 129 => 362 | 317 => 361 | 318 => 363 | 319 => 364 | 320 => 365 | 337 => 377 | 338 => 378 | n => n, fun | 2 => 2 | 3 => 3 | 9 => 9 | 4 => 4 | 171 => 419 | 0 => 0 | 53 => 103 | 37 => 238 | 5 => 5 | 173 => 422 | 212 => 447 | 51 => 399 | 20 => 20 | 213 => 448 | 46 => 265 | 232 => 465 | 233 => 466 | n => n, fun | 17 => 3 | 18 => 8 | 19 => 9 | n => n⟩
theorem Tryz.laysM173 : Go.Proofs.LaysM.n173 Tryz.prog Tryz.laysM173_ren := {
  mixed := by kernel_rfl
  f129 := Tryz.func362.trans (congrArg some (by kernel_rfl))
  f173 := Tryz.func240.trans (congrArg some (by kernel_rfl))
  f246 := Tryz.func305.trans (congrArg some (by kernel_rfl))
  f283 := Tryz.func338.trans (congrArg some (by kernel_rfl))
  f284 := Tryz.func339.trans (congrArg some (by kernel_rfl))
  f285 := Tryz.func340.trans (congrArg some (by kernel_rfl))
  f286 := Tryz.func341.trans (congrArg some (by kernel_rfl))
  f317 := Tryz.func361.trans (congrArg some (by kernel_rfl))
  f318 := Tryz.func363.trans (congrArg some (by kernel_rfl))
  f319 := Tryz.func364.trans (congrArg some (by kernel_rfl))
  f320 := Tryz.func365.trans (congrArg some (by kernel_rfl))
  f337 := Tryz.func377.trans (congrArg some (by kernel_rfl))
  f338 := Tryz.func378.trans (congrArg some (by kernel_rfl))
  t0 := Tryz.underlying0
  a0 := Tryz.isAgg0
  z0 := Tryz.sizeOf0
  v0 := Tryz.zeroValue0
  t2 := Tryz.underlying2
  a2 := Tryz.isAgg2
  z2 := Tryz.sizeOf2
  v2 := Tryz.zeroValue2
  t3 := Tryz.underlying3
  a3 := Tryz.isAgg3
  z3 := Tryz.sizeOf3
  v3 := Tryz.zeroValue3
  t4 := Tryz.underlying4
  a4 := Tryz.isAgg4
  z4 := Tryz.sizeOf4
  v4 := Tryz.zeroValue4
  t5 := Tryz.underlying5
  a5 := Tryz.isAgg5
  z5 := Tryz.sizeOf5
  v5 := Tryz.zeroValue5
  t9 := Tryz.underlying9
  a9 := Tryz.isAgg9
  z9 := Tryz.sizeOf9
  v9 := Tryz.zeroValue9
  t20 := Tryz.underlying20
  a20 := Tryz.isAgg20
  z20 := Tryz.sizeOf20
  v20 := Tryz.zeroValue20
  t37 := Tryz.underlying238
  a37 := Tryz.isAgg238
  z37 := Tryz.sizeOf238
  v37 := Tryz.zeroValue238
  t46 := Tryz.underlying265
  a46 := Tryz.isAgg265
  z46 := Tryz.sizeOf265
  v46 := Tryz.zeroValue265
  t51 := Tryz.underlying399
  a51 := Tryz.isAgg399
  z51 := Tryz.sizeOf399
  v51 := Tryz.zeroValue399
  t53 := Tryz.underlying103
  a53 := Tryz.isAgg103
  z53 := Tryz.sizeOf103
  v53 := Tryz.zeroValue103
  t171 := Tryz.underlying419
  a171 := Tryz.isAgg419
  z171 := Tryz.sizeOf419
  v171 := Tryz.zeroValue419
  t173 := Tryz.underlying422
  a173 := Tryz.isAgg422
  z173 := Tryz.sizeOf422
  v173 := Tryz.zeroValue422
  t212 := Tryz.underlying447
  a212 := Tryz.isAgg447
  z212 := Tryz.sizeOf447
  v212 := Tryz.zeroValue447
  t213 := Tryz.underlying448
  a213 := Tryz.isAgg448
  z213 := Tryz.sizeOf448
  t232 := Tryz.underlying465
  a232 := Tryz.isAgg465
  z232 := Tryz.sizeOf465
  v232 := Tryz.zeroValue465
  t233 := Tryz.underlying466
  a233 := Tryz.isAgg466
  z233 := Tryz.sizeOf466
  v233 := Tryz.zeroValue466
  g17 := by kernel_rfl
  g18 := by kernel_rfl
  g19 := by kernel_rfl
  i0 := by kernel_rfl
  i2 := by kernel_rfl
  i3 := by kernel_rfl
  i4 := by kernel_rfl
  i5 := by kernel_rfl
  i9 := by kernel_rfl
  i20 := by kernel_rfl
  i37 := by kernel_rfl
  i46 := by kernel_rfl
  i51 := by kernel_rfl
  i53 := by kernel_rfl
  i171 := by kernel_rfl
  i173 := by kernel_rfl
  i212 := by kernel_rfl
  i232 := by kernel_rfl
  i233 := by kernel_rfl
  m17 := by kernel_rfl
  m18 := by kernel_rfl
  m19 := by kernel_rfl }
open Go.RowKit Go.Sort Go.Lib in
theorem Tryz.strconv_FormatInt_10 (n : Int) (h0 : -9223372036854775808 ≤ n) (h1 : n ≤ 9223372036854775807) (w : World) (htab : Lib.TabIs Tryz.prog w "internal/strconv.uint64pow10" .u64 Lib.pow10Tab) :
    Calls Tryz.prog 240 #[.int .i64 n, .int .i64 10] w fun e w' => e = .returned (.string ⟨(Lib.itoa n).toArray⟩) ∧ ∃ k os, w' = grow (w.drewN k) os := Any.strconv_FormatInt_10 Tryz.laysM173 n h0 h1 w htab
def Tryz.lays145_ren : Go.Shelf.Ren := ⟨fun | 145 => 270 | 220 => 321 | 219 => 351 | 217 => 372 | 225 => 373 | 224 => 374 | 267 => 375 | 266 => 381 | 314 => 382 | n => n, fun | 9 => 9 | 4 => 4 | 59 => 357 | 3 => 3 | 5 => 5 | 46 => 265 | 146 => 463 | 51 => 399 | n => n, fun | 1 => 2 | n => n⟩
theorem Tryz.lays145 : Go.Proofs.Lays.n145 Tryz.prog Tryz.lays145_ren := {
  mixed := by kernel_rfl
  f145 := Tryz.func270.trans (congrArg some (by kernel_rfl))
  f217 := Tryz.func372.trans (congrArg some (by kernel_rfl))
  f219 := Tryz.func351.trans (congrArg some (by kernel_rfl))
  f220 := Tryz.func321.trans (congrArg some (by kernel_rfl))
  f224 := Tryz.func374.trans (congrArg some (by kernel_rfl))
  f225 := Tryz.func373.trans (congrArg some (by kernel_rfl))
  f266 := Tryz.func381.trans (congrArg some (by kernel_rfl))
  f267 := Tryz.func375.trans (congrArg some (by kernel_rfl))
  f314 := Tryz.func382.trans (congrArg some (by kernel_rfl))
  t3 := Tryz.underlying3
  a3 := Tryz.isAgg3
  z3 := Tryz.sizeOf3
  v3 := Tryz.zeroValue3
  t4 := Tryz.underlying4
  a4 := Tryz.isAgg4
  z4 := Tryz.sizeOf4
  v4 := Tryz.zeroValue4
  t5 := Tryz.underlying5
  a5 := Tryz.isAgg5
  z5 := Tryz.sizeOf5
  v5 := Tryz.zeroValue5
  t9 := Tryz.underlying9
  a9 := Tryz.isAgg9
  z9 := Tryz.sizeOf9
  v9 := Tryz.zeroValue9
  t46 := Tryz.underlying265
  a46 := Tryz.isAgg265
  z46 := Tryz.sizeOf265
  v46 := Tryz.zeroValue265
  t51 := Tryz.underlying399
  a51 := Tryz.isAgg399
  z51 := Tryz.sizeOf399
  v51 := Tryz.zeroValue399
  t59 := Tryz.underlying357
  a59 := Tryz.isAgg357
  z59 := Tryz.sizeOf357
  v59 := Tryz.zeroValue357
  t146 := Tryz.underlying463
  a146 := Tryz.isAgg463
  z146 := Tryz.sizeOf463
  v146 := Tryz.zeroValue463
  g1 := by kernel_rfl }
open Go.RowKit Go.Lib in
theorem Tryz.strings_Cut (s sep : ByteArray) (m : Int) (w : World) (hs : s.size < 4294967281) (hm : w.cell? ⟨2, 0, none⟩ = some (.int .i64 m)) :
    Calls Tryz.prog 270 #[.string s, .string sep] w fun e w' => e = .returned (.tuple #[.string ⟨(Lib.cut s.data.toList sep.data.toList).1.toArray⟩, .string ⟨(Lib.cut s.data.toList sep.data.toList).2.1.toArray⟩, .bool (Lib.cut s.data.toList sep.data.toList).2.2]) ∧ ∃ n, w' = w.drewN n := Any.strings_Cut Tryz.lays145 s sep m w hs hm
def Tryz.lays99_ren : Go.Shelf.Ren := ⟨fun | 99 => 251 | 206 => 269 | n => n, fun | 9 => 9 | 4 => 4 | 3 => 3 | n => n, fun | n => n⟩
theorem Tryz.lays99 : Go.Proofs.Lays.n99 Tryz.prog Tryz.lays99_ren := {
  mixed := by kernel_rfl
  f99 := Tryz.func251.trans (congrArg some (by kernel_rfl))
  f206 := Tryz.func269.trans (congrArg some (by kernel_rfl))
  t3 := Tryz.underlying3
  a3 := Tryz.isAgg3
  z3 := Tryz.sizeOf3
  v3 := Tryz.zeroValue3
  t4 := Tryz.underlying4
  a4 := Tryz.isAgg4
  z4 := Tryz.sizeOf4
  v4 := Tryz.zeroValue4
  t9 := Tryz.underlying9
  a9 := Tryz.isAgg9
  z9 := Tryz.sizeOf9
  v9 := Tryz.zeroValue9 }
open Go.RowKit Go.Lib in
theorem Tryz.strings_HasPrefix (s p : ByteArray) (w : World) :
    Calls Tryz.prog 251 #[.string s, .string p] w fun e w' => e = .returned (.bool (Lib.hasPrefix s.data.toList p.data.toList)) ∧ w' = w := Any.strings_HasPrefix Tryz.lays99 s p w
def Tryz.lays157_ren : Go.Shelf.Ren := ⟨fun | 157 => 168 | 229 => 245 | 199 => 246 | 261 => 312 | 311 => 345 | 312 => 346 | n => n, fun | 9 => 9 | 31 => 167 | 3 => 3 | 5 => 5 | 4 => 4 | 119 => 338 | 0 => 0 | 40 => 340 | 152 => 396 | 21 => 21 | 154 => 398 | 51 => 399 | 141 => 401 | 196 => 428 | 193 => 425 | 198 => 431 | 49 => 429 | 194 => 426 | 201 => 434 | 226 => 451 | 46 => 265 | 227 => 452 | n => n, fun | 0 => 0 | 6 => 1 | n => n⟩
theorem Tryz.lays157 : Go.Proofs.Lays.n157 Tryz.prog Tryz.lays157_ren := {
  mixed := by kernel_rfl
  f157 := Tryz.func168.trans (congrArg some (by kernel_rfl))
  f199 := Tryz.func246.trans (congrArg some (by kernel_rfl))
  f229 := Tryz.func245.trans (congrArg some (by kernel_rfl))
  f261 := Tryz.func312.trans (congrArg some (by kernel_rfl))
  f311 := Tryz.func345.trans (congrArg some (by kernel_rfl))
  f312 := Tryz.func346.trans (congrArg some (by kernel_rfl))
  t0 := Tryz.underlying0
  a0 := Tryz.isAgg0
  z0 := Tryz.sizeOf0
  v0 := Tryz.zeroValue0
  t3 := Tryz.underlying3
  a3 := Tryz.isAgg3
  z3 := Tryz.sizeOf3
  v3 := Tryz.zeroValue3
  t4 := Tryz.underlying4
  a4 := Tryz.isAgg4
  z4 := Tryz.sizeOf4
  v4 := Tryz.zeroValue4
  t5 := Tryz.underlying5
  a5 := Tryz.isAgg5
  z5 := Tryz.sizeOf5
  v5 := Tryz.zeroValue5
  t9 := Tryz.underlying9
  a9 := Tryz.isAgg9
  z9 := Tryz.sizeOf9
  v9 := Tryz.zeroValue9
  t21 := Tryz.underlying21
  a21 := Tryz.isAgg21
  z21 := Tryz.sizeOf21
  v21 := Tryz.zeroValue21
  t31 := Tryz.underlying167
  a31 := Tryz.isAgg167
  z31 := Tryz.sizeOf167
  v31 := Tryz.zeroValue167
  t40 := Tryz.underlying340
  a40 := Tryz.isAgg340
  z40 := Tryz.sizeOf340
  v40 := Tryz.zeroValue340
  t46 := Tryz.underlying265
  a46 := Tryz.isAgg265
  z46 := Tryz.sizeOf265
  v46 := Tryz.zeroValue265
  t49 := Tryz.underlying429
  a49 := Tryz.isAgg429
  z49 := Tryz.sizeOf429
  v49 := Tryz.zeroValue429
  t51 := Tryz.underlying399
  a51 := Tryz.isAgg399
  z51 := Tryz.sizeOf399
  v51 := Tryz.zeroValue399
  t119 := Tryz.underlying338
  a119 := Tryz.isAgg338
  z119 := Tryz.sizeOf338
  t141 := Tryz.underlying401
  a141 := Tryz.isAgg401
  z141 := Tryz.sizeOf401
  v141 := Tryz.zeroValue401
  t152 := Tryz.underlying396
  a152 := Tryz.isAgg396
  z152 := Tryz.sizeOf396
  v152 := Tryz.zeroValue396
  t154 := Tryz.underlying398
  a154 := Tryz.isAgg398
  z154 := Tryz.sizeOf398
  v154 := Tryz.zeroValue398
  t193 := Tryz.underlying425
  a193 := Tryz.isAgg425
  z193 := Tryz.sizeOf425
  v193 := Tryz.zeroValue425
  t194 := Tryz.underlying426
  a194 := Tryz.isAgg426
  z194 := Tryz.sizeOf426
  v194 := Tryz.zeroValue426
  t196 := Tryz.underlying428
  a196 := Tryz.isAgg428
  z196 := Tryz.sizeOf428
  v196 := Tryz.zeroValue428
  t198 := Tryz.underlying431
  a198 := Tryz.isAgg431
  z198 := Tryz.sizeOf431
  v198 := Tryz.zeroValue431
  t201 := Tryz.underlying434
  a201 := Tryz.isAgg434
  z201 := Tryz.sizeOf434
  v201 := Tryz.zeroValue434
  t226 := Tryz.underlying451
  a226 := Tryz.isAgg451
  z226 := Tryz.sizeOf451
  v226 := Tryz.zeroValue451
  t227 := Tryz.underlying452
  a227 := Tryz.isAgg452
  z227 := Tryz.sizeOf452
  v227 := Tryz.zeroValue452
  g0 := by kernel_rfl
  g6 := by kernel_rfl }
open Go.RowKit Go.Lib in
theorem Tryz.strings_Fields (s : ByteArray) (w : World) (hs : s.size < 4294967281) (hascii : ∀ (j : Nat) b, s.data.toList[j]? = some b → b.toNat < 128) (htab : Lib.TabIs Tryz.prog w "strings.asciiSpace" .u8 Lib.asciiSpaceTab) :
    Calls Tryz.prog 168 #[.string s] w fun e w' =>
      e = .returned (.slice (some ⟨w.heap.size, 0, none⟩) (Lib.fields s.data.toList).length (Lib.fields s.data.toList).length) ∧ w' = w.alloc (.cells ((Lib.fields s.data.toList).map fun l => Value.string ⟨l.toArray⟩).toArray 9) := Any.strings_Fields Tryz.lays157 (by kernel_rfl) (by kernel_rfl) s w hs hascii htab
def Tryz.lays155_ren : Go.Shelf.Ren := ⟨fun | 155 => 236 | 154 => 304 | 138 => 327 | 165 => 164 | 143 => 328 | 166 => 165 | 197 => 337 | 169 => 145 | 195 => 356 | 218 => 357 | 240 => 243 | 241 => 244 | 219 => 351 | 260 => 360 | 276 => 310 | 277 => 311 | 217 => 372 | 225 => 373 | 224 => 374 | 267 => 375 | 266 => 381 | 314 => 382 | n => n, fun | 9 => 9 | 3 => 3 | 4 => 4 | 72 => 240 | 0 => 0 | 76 => 255 | 105 => 417 | 21 => 21 | 5 => 5 | 70 => 237 | 20 => 20 | 37 => 238 | 75 => 254 | 127 => 331 | 164 => 393 | 46 => 265 | 119 => 338 | 139 => 461 | 138 => 460 | 146 => 463 | 51 => 399 | 80 => 242 | n => n, fun | 1 => 2 | 3 => 6 | 4 => 7 | n => n⟩
theorem Tryz.lays155 : Go.Proofs.Lays.n155 Tryz.prog Tryz.lays155_ren := {
  mixed := by kernel_rfl
  f138 := Tryz.func327.trans (congrArg some (by kernel_rfl))
  f143 := Tryz.func328.trans (congrArg some (by kernel_rfl))
  f154 := Tryz.func304.trans (congrArg some (by kernel_rfl))
  f155 := Tryz.func236.trans (congrArg some (by kernel_rfl))
  f165 := Tryz.func164.trans (congrArg some (by kernel_rfl))
  f166 := Tryz.func165.trans (congrArg some (by kernel_rfl))
  f169 := Tryz.func145.trans (congrArg some (by kernel_rfl))
  f195 := Tryz.func356.trans (congrArg some (by kernel_rfl))
  f197 := Tryz.func337.trans (congrArg some (by kernel_rfl))
  f217 := Tryz.func372.trans (congrArg some (by kernel_rfl))
  f218 := Tryz.func357.trans (congrArg some (by kernel_rfl))
  f219 := Tryz.func351.trans (congrArg some (by kernel_rfl))
  f224 := Tryz.func374.trans (congrArg some (by kernel_rfl))
  f225 := Tryz.func373.trans (congrArg some (by kernel_rfl))
  f240 := Tryz.func243.trans (congrArg some (by kernel_rfl))
  f241 := Tryz.func244.trans (congrArg some (by kernel_rfl))
  f260 := Tryz.func360.trans (congrArg some (by kernel_rfl))
  f266 := Tryz.func381.trans (congrArg some (by kernel_rfl))
  f267 := Tryz.func375.trans (congrArg some (by kernel_rfl))
  f276 := Tryz.func310.trans (congrArg some (by kernel_rfl))
  f277 := Tryz.func311.trans (congrArg some (by kernel_rfl))
  f314 := Tryz.func382.trans (congrArg some (by kernel_rfl))
  t0 := Tryz.underlying0
  a0 := Tryz.isAgg0
  z0 := Tryz.sizeOf0
  v0 := Tryz.zeroValue0
  t3 := Tryz.underlying3
  a3 := Tryz.isAgg3
  z3 := Tryz.sizeOf3
  v3 := Tryz.zeroValue3
  t4 := Tryz.underlying4
  a4 := Tryz.isAgg4
  z4 := Tryz.sizeOf4
  v4 := Tryz.zeroValue4
  t5 := Tryz.underlying5
  a5 := Tryz.isAgg5
  z5 := Tryz.sizeOf5
  v5 := Tryz.zeroValue5
  t9 := Tryz.underlying9
  a9 := Tryz.isAgg9
  z9 := Tryz.sizeOf9
  v9 := Tryz.zeroValue9
  t20 := Tryz.underlying20
  a20 := Tryz.isAgg20
  z20 := Tryz.sizeOf20
  v20 := Tryz.zeroValue20
  t21 := Tryz.underlying21
  a21 := Tryz.isAgg21
  z21 := Tryz.sizeOf21
  v21 := Tryz.zeroValue21
  t37 := Tryz.underlying238
  a37 := Tryz.isAgg238
  z37 := Tryz.sizeOf238
  v37 := Tryz.zeroValue238
  t46 := Tryz.underlying265
  a46 := Tryz.isAgg265
  z46 := Tryz.sizeOf265
  v46 := Tryz.zeroValue265
  t51 := Tryz.underlying399
  a51 := Tryz.isAgg399
  z51 := Tryz.sizeOf399
  v51 := Tryz.zeroValue399
  t70 := Tryz.underlying237
  a70 := Tryz.isAgg237
  z70 := Tryz.sizeOf237
  v70 := Tryz.zeroValue237
  t72 := Tryz.underlying240
  a72 := Tryz.isAgg240
  z72 := Tryz.sizeOf240
  v72 := Tryz.zeroValue240
  t75 := Tryz.underlying254
  a75 := Tryz.isAgg254
  z75 := Tryz.sizeOf254
  v75 := Tryz.zeroValue254
  t76 := Tryz.underlying255
  a76 := Tryz.isAgg255
  z76 := Tryz.sizeOf255
  v76 := Tryz.zeroValue255
  t105 := Tryz.underlying417
  a105 := Tryz.isAgg417
  z105 := Tryz.sizeOf417
  v105 := Tryz.zeroValue417
  t119 := Tryz.underlying338
  a119 := Tryz.isAgg338
  z119 := Tryz.sizeOf338
  t127 := Tryz.underlying331
  a127 := Tryz.isAgg331
  z127 := Tryz.sizeOf331
  v127 := Tryz.zeroValue331
  t138 := Tryz.underlying460
  a138 := Tryz.isAgg460
  z138 := Tryz.sizeOf460
  v138 := Tryz.zeroValue460
  t139 := Tryz.underlying461
  a139 := Tryz.isAgg461
  z139 := Tryz.sizeOf461
  v139 := Tryz.zeroValue461
  t146 := Tryz.underlying463
  a146 := Tryz.isAgg463
  z146 := Tryz.sizeOf463
  v146 := Tryz.zeroValue463
  t164 := Tryz.underlying393
  a164 := Tryz.isAgg393
  z164 := Tryz.sizeOf393
  v164 := Tryz.zeroValue393
  g1 := by kernel_rfl
  g3 := by kernel_rfl
  g4 := by kernel_rfl }
theorem Tryz.Builder_Extra_155 : Builder.Extra Tryz.prog Tryz.lays155_ren := {
  sizeBuilder := by kernel_rfl
  liesBuilder := by kernel_rfl
  t5 := Tryz.underlying5
  a5 := Tryz.isAgg5
  z5 := Tryz.sizeOf5
  v5 := Tryz.zeroValue5
  infoByte := by kernel_rfl
  cellsByte := by kernel_rfl
  sizeByte := by kernel_rfl
  neB5 := by decide }
open Go.RowKit Go.Lib in
theorem Tryz.strings_ReplaceAll (s old new : ByteArray) (m : Int) (w : World) (hs : s.size < 4294967281) (hm : w.cell? ⟨2, 0, none⟩ = some (.int .i64 m)) (h1 : 1 ≤ old.size) (hlen : s.size + Lib.countB s old * new.size ≤ 140737488355328) :
    Calls Tryz.prog 236 #[.string s, .string old, .string new] w fun e w' =>
      e = .returned (.string ⟨(Lib.replaceAll s.data.toList old.data.toList new.data.toList).toArray⟩) ∧ Below w.heap.size w w' := Any.strings_ReplaceAll Tryz.lays155 Tryz.Builder_Extra_155 s old new m w hs hm h1 hlen
def Tryz.lays264_ren : Go.Shelf.Ren := ⟨fun | 264 => 353 | n => n, fun | 53 => 103 | 46 => 265 | n => n, fun | n => n⟩
theorem Tryz.lays264 : Go.Proofs.Lays.n264 Tryz.prog Tryz.lays264_ren := {
  mixed := by kernel_rfl
  f264 := Tryz.func353.trans (congrArg some (by kernel_rfl))
  t46 := Tryz.underlying265
  a46 := Tryz.isAgg265
  z46 := Tryz.sizeOf265
  v46 := Tryz.zeroValue265
  t53 := Tryz.underlying103
  a53 := Tryz.isAgg103
  z53 := Tryz.sizeOf103
  v53 := Tryz.zeroValue103 }
open Go.RowKit Go.Lib in
theorem Tryz.bits_Mul64 (x y : Nat) (hx : x < 18446744073709551616) (hy : y < 18446744073709551616) (w : World) :
    Calls Tryz.prog 353 #[.int .u64 x, .int .u64 y] w fun e w' => e = .returned (.tuple #[.int .u64 ((x * y / 18446744073709551616 : Nat) : Int), .int .u64 ((x * y % 18446744073709551616 : Nat) : Int)]) ∧ w' = w := Any.bits_Mul64 Tryz.lays264 x y hx hy w
end Go.Proofs
