/- WHAT IS TOLD OF ERRORS AND COSTS IS READ BACK, AND ONLY WHAT IS TOLD IS READ: of any error, any cost, and any text. -/
import Derived.Test.YtaljjdodjimgdaaGreatDoorRB11
namespace Go.Proofs.YtaljjdodjimgdaaGreatDoor.P
open Go.RowKit Go.Proofs.YtaljjdodjimgdaaGreatDoorW.PrintWords Go.Proofs.YtaljjdodjimgdaaGreatDoorW.PrintLast Go.Proofs.YtaljjdodjimgdaaGreatDoorW.PrintMore
theorem alive45 : oculuslaw45_alive.f 60 = some true := by kernel_rfl
theorem ev_alive45 : Ev (fun k => oculuslaw45_alive.f k) true := Ev.of (fun k => oculuslaw45_alive.mono k) alive45
theorem count_text (n : Int) (h0 : 0 ≤ n) (h1 : n ≤ 1000000000) : Ev (fun k => reply_count.f k n) (mkS (Lib.decDigits n.toNat)) := by
 unfold reply_count.f
 rw [w64 (by omega) (by omega)]
 refine ev_bind (f := fun _ t143 => some t143) (digits_text (n * 10000) (by omega) (by omega)) (ev_sub (ev_now _) ?_)
 rw [mkS_inj]
 unfold decText
 rw [if_neg (by omega), if_neg (by omega), if_pos (by omega)]
 simp
 congr 1
 omega
def errWord : List UInt8 := [101, 114, 114, 111, 114, 32]
def costWord : List UInt8 := [99, 111, 115, 116, 32]
def errIn (e : Int) : Prop := 1 ≤ e ∧ e ≤ 999
instance (e : Int) : Decidable (errIn e) := by unfold errIn; infer_instance
def errText (e : Int) : List UInt8 := if errIn e then errWord ++ Lib.decDigits e.toNat else []
theorem errText_len (e : Int) : (errText e).length ≤ 26 := by
 unfold errText
 split
 ·rename_i h
  have := dec_len20 e.toNat (by have := h.2; omega)
  simp [errWord]
  omega
 ·simp
theorem reply_error (e : Int) : Ev (fun k => reply_Error.f k e) (mkS (errText e)) := by
 unfold reply_Error.f errText
 by_cases h1 : e < 1
 ·rw [if_neg (fun h : errIn e => by have := h.1; omega)]
  exact ev_pos h1 (ev_now _)
 ·refine ev_neg h1 ?_
  by_cases h2 : e > 999
  ·rw [if_neg (fun h : errIn e => by have := h.2; omega)]
   exact ev_pos h2 (ev_now _)
  ·refine ev_neg h2 ?_
   rw [if_pos (show errIn e from ⟨by omega, by omega⟩)]
   have := dec_len20 e.toNat (by omega)
   refine Ev.bind (count_text e (by omega) (by omega)) ?_
   exact ev_pos (by rw [mkS_size]; omega) (ev_sub (ev_now _) (by rw [lit_mkS, mkS_append]; rfl))
theorem ref_error (e : Int) : Ev (fun k => oculusref45_Error.f k e) (mkS (errText e)) := by
 unfold oculusref45_Error.f errText
 by_cases h1 : e < 1
 ·rw [if_neg (fun h : errIn e => by have := h.1; omega)]
  exact ev_pos h1 (ev_now _)
 ·refine ev_neg h1 ?_
  by_cases h2 : e > 999
  ·rw [if_neg (fun h : errIn e => by have := h.2; omega)]
   exact ev_pos h2 (ev_now _)
  ·refine ev_neg h2 ?_
   rw [if_pos (show errIn e from ⟨by omega, by omega⟩)]
   have := dec_len20 e.toNat (by omega)
   refine Ev.bind (ref01_digits (n := e) (by omega) (by omega)) ?_
   exact ev_pos (by rw [mkS_size]; omega) (ev_sub (ev_now _) (by rw [lit_mkS, mkS_append]; rfl))
theorem hasPrefix_own (p x : List UInt8) : Lib.hasPrefix (p ++ x) p = true := List.isPrefixOf_iff_prefix.2 (List.prefix_append p x)
theorem trimPrefix_own (p x : List UInt8) : Lib.trimPrefix (p ++ x) p = x := by
 unfold Lib.trimPrefix
 rw [if_pos (hasPrefix_own p x), List.drop_left]
theorem errText_in {e : Int} (h : errIn e) : errText e = errWord ++ Lib.decDigits e.toNat := if_pos h
theorem errText_inj {a b : Int} (ha : errIn a) (hb : errIn b) (h : errText a = errText b) : a = b := by
 rw [errText_in ha, errText_in hb] at h
 exact dec_inj ⟨by have := ha.1; omega, by have := ha.2; omega⟩ ⟨by have := hb.1; omega, by have := hb.2; omega⟩ (List.append_cancel_left h)
def codeFrom (t : List UInt8) : Nat → Int → Int
 | 0, _ => 0
 | d + 1, e => if errText e = t then e else codeFrom t d (e + 1)
def codeOf (t : List UInt8) : Int := codeFrom t 999 1
theorem codeFrom_told (t : List UInt8) (x : Int) (hx : errIn x) (ht : errText x = t) : ∀ (d : Nat) (e : Int), e + d = 1000 → 1 ≤ e → e ≤ x → codeFrom t d e = x
 | 0, e, h1, h2, h3 => by have := hx.2; omega
 | d + 1, e, h1, h2, h3 => by
  unfold codeFrom
  by_cases he : errText e = t
  ·rw [if_pos he]
   exact errText_inj ⟨h2, by omega⟩ hx (he.trans ht.symm)
  ·rw [if_neg he]
   refine codeFrom_told t x hx ht d (e + 1) (by omega) (by omega) ?_
   rcases Int.lt_or_eq_of_le h3 with h | rfl
   ·omega
   ·exact absurd ht he
theorem codeOf_told {t : List UInt8} {x : Int} (hx : errIn x) (ht : errText x = t) : codeOf t = x := codeFrom_told t x hx ht 999 1 (by omega) (by omega) hx.1
theorem codeFrom_none (t : List UInt8) (h : ∀ e, errIn e → errText e ≠ t) : ∀ (d : Nat) (e : Int), e + d = 1000 → 1 ≤ e → codeFrom t d e = 0
 | 0, _, _, _ => rfl
 | d + 1, e, h1, h2 => by
  unfold codeFrom
  rw [if_neg (h e ⟨h2, by omega⟩)]
  exact codeFrom_none t h d (e + 1) (by omega) (by omega)
theorem codeOf_none {t : List UInt8} (h : ∀ e, errIn e → errText e ≠ t) : codeOf t = 0 := codeFrom_none t h 999 1 (by omega) (by omega)
theorem ref_readerror_loop (t : ByteArray) : ∀ (d : Nat) (e : Int), e + d = 1000 → 1 ≤ e → Ev (fun k => oculusref45_ReadError.l0 k t e) (codeFrom t.data.toList d e)
 | 0, e, h1, h2 => ev_succ (fun k => oculusref45_ReadError.l0.eq_2 ..) (ev_neg (by omega) (ev_now _))
 | d + 1, e, h1, h2 => by
  refine ev_succ (fun k => oculusref45_ReadError.l0.eq_2 ..) (ev_pos (by omega) (Ev.bind (ref_error e) ?_))
  unfold codeFrom
  by_cases he : errText e = t.data.toList
  ·rw [if_pos he]
   exact ev_pos (by rw [mkS_toList, toList_data]; exact he) (ev_now _)
  ·rw [if_neg he]
   refine ev_neg (by rw [mkS_toList, toList_data]; exact he) ?_
   rw [w64 (by omega) (by omega)]
   exact ref_readerror_loop t d (e + 1) (by omega) (by omega)
theorem ref_readerror (t : ByteArray) : Ev (fun k => oculusref45_ReadError.f k t) (codeOf t.data.toList) := ref_readerror_loop t 999 1 (by omega) (by omega)
theorem reply_readerror (t : ByteArray) (ht : t.size ≤ 1000000) : Ev (fun k => reply_ReadError.f k t) (codeOf t.data.toList, decide (codeOf t.data.toList ≠ 0)) := by
 have hl : (mkS (Lib.trimPrefix t.data.toList errWord)).size ≤ 1000000 := by
  have := trim_len t.data.toList errWord
  rw [mkS_size, size_data] at *
  omega
 have hp := dP_spec (mkS (Lib.trimPrefix t.data.toList errWord)) hl
 have told : ∀ e, errIn e → errText e = t.data.toList → Lib.hasPrefix t.data.toList errWord = true ∧ dP (mkS (Lib.trimPrefix t.data.toList errWord)) = (e * 10000, true) := fun e he h => by
  rw [← h, errText_in he, trimPrefix_own]
  exact ⟨hasPrefix_own _ _, dP_dec e ⟨by have := he.1; omega, by have := he.2; omega⟩⟩
 unfold reply_ReadError.f
 refine ev_eq (a := (mkS (Lib.trimPrefix t.data.toList errWord), Lib.hasPrefix t.data.toList errWord)) rfl (Ev.bind hp.1 ?_)
 by_cases h1 : Lib.hasPrefix t.data.toList errWord = true
 ·refine ev_pos h1 ?_
  by_cases h2 : (dP (mkS (Lib.trimPrefix t.data.toList errWord))).2 = true
  ·refine ev_pos h2 ?_
   generalize hq : wrap64 (Int.tdiv (dP (mkS (Lib.trimPrefix t.data.toList errWord))).1 10000) = q
   refine Ev.bind (reply_error q) ?_
   by_cases h3 : errText q = t.data.toList
   ·have hin : errIn q := by
     by_cases hin : errIn q
     ·exact hin
     ·unfold errText at h3
      rw [if_neg hin] at h3
      rw [← h3] at h1
      exact absurd h1 (by decide)
    have hc := codeOf_told hin h3
    refine ev_pos (by rw [mkS_toList, toList_data]; exact h3) (ev_sub (ev_now _) ?_)
    rw [hc, decide_eq_true (by have := hin.1; omega)]
   ·have hc : codeOf t.data.toList = 0 := codeOf_none fun e he h => h3 (by
     have h4 := (told e he h).2
     rw [h4] at hq
     have h5 := he.1
     have h6 := he.2
     rw [tdv (by show 0 ≤ e * 10000; omega), w64 (by omega) (by omega)] at hq
     rw [show q = e by omega]
     exact h)
    refine ev_neg (by rw [mkS_toList, toList_data]; exact h3) (ev_sub (ev_now _) ?_)
    rw [hc]
    rfl
  ·have hc : codeOf t.data.toList = 0 := codeOf_none fun e he h => h2 (by rw [(told e he h).2])
   refine ev_neg h2 (ev_sub (ev_now _) ?_)
   rw [hc]
   rfl
 ·have hc : codeOf t.data.toList = 0 := codeOf_none fun e he h => h1 (told e he h).1
  refine ev_neg h1 (ev_sub (ev_now _) ?_)
  rw [hc]
  rfl
theorem codeOf_err (e : Int) : codeOf (errText e) = if errIn e then e else 0 := by
 split
 ·rename_i h
  exact codeOf_told h rfl
 ·rename_i h
  refine codeOf_none fun x hx hh => ?_
  rw [errText_in hx] at hh
  unfold errText at hh
  rw [if_neg h] at hh
  simp [errWord] at hh
theorem right_is (n : Int) : oculusref36_right.f n = some (decide (inCount n)) := by
 unfold oculusref36_right.f
 by_cases hin : inCount n
 ·have h1 := hin.1
  have h2 := hin.2
  rw [decide_eq_true hin, if_pos h1, decide_eq_true h2]
 ·rw [decide_eq_false hin]
  by_cases h : n ≥ 0
  ·rw [if_pos h, decide_eq_false (fun h2 => hin ⟨h, h2⟩)]
  ·rw [if_neg h]
theorem all5 (a b c d e : Int) : (∀ n ∈ [a, b, c, d, e], inCount n) ↔ inCount a ∧ inCount b ∧ inCount c ∧ inCount d ∧ inCount e := by simp
theorem Right_is (a b c d e : Int) : oculusref36_Right.f a b c d e = some (decide (∀ n ∈ [a, b, c, d, e], inCount n)) := by
 unfold oculusref36_Right.f
 simp only [right_is, Option.bind_some, decide_eq_true_eq]
 by_cases h : ∀ n ∈ [a, b, c, d, e], inCount n
 ·rw [decide_eq_true h]
  obtain ⟨ha, hb, hc, hd, he⟩ := (all5 a b c d e).1 h
  rw [if_pos ha, if_pos hb, if_pos hc, if_pos hd, decide_eq_true he]
 ·rw [decide_eq_false h]
  rw [all5] at h
  by_cases ha : inCount a
  ·rw [if_pos ha]
   by_cases hb : inCount b
   ·rw [if_pos hb]
    by_cases hc : inCount c
    ·rw [if_pos hc]
     by_cases hd : inCount d
     ·rw [if_pos hd, decide_eq_false (fun he => h ⟨ha, hb, hc, hd, he⟩)]
     ·rw [if_neg hd]
    ·rw [if_neg hc]
   ·rw [if_neg hb]
  ·rw [if_neg ha]
theorem ref36_text (a b c d e : Int) : Ev (fun k => oculusref36_Text.f k a b c d e) (meterText [a, b, c, d, e]) := by
 unfold oculusref36_Text.f meterText
 refine ev_eq (Right_is a b c d e) ?_
 by_cases h : ∀ n ∈ [a, b, c, d, e], inCount n
 ·rw [if_pos h]
  refine ev_pos (decide_eq_true h) ?_
  have D : ∀ n : Int, inCount n → (Lib.decDigits n.toNat).length ≤ 20 := fun n hn => dec_len20 n.toNat (by have := hn.2; omega)
  obtain ⟨ha, hb, hc, hd, he⟩ := (all5 a b c d e).1 h
  have la := D a ha
  have lb := D b hb
  have lc := D c hc
  have ld := D d hd
  have le := D e he
  have R : ∀ n : Int, inCount n → Ev (fun k => oculusref01_Digits.f k n) (mkS (Lib.decDigits n.toNat)) := fun n hn => ref01_digits hn.1 (by have := hn.2; omega)
  (try simp only [lit_mkS, mkS_append, mkS_size])
  refine Ev.bind (R a ha) (ev_pos (by (try simp only [mkS_append, mkS_size, List.length_append, List.length_cons, List.length_nil]); omega) ?_)
  (try simp only [lit_mkS, mkS_append, mkS_size])
  refine ev_pos (by (try simp only [mkS_append, mkS_size, List.length_append, List.length_cons, List.length_nil]); omega) (Ev.bind (R b hb) ?_)
  (try simp only [lit_mkS, mkS_append, mkS_size])
  refine ev_pos (by (try simp only [mkS_append, mkS_size, List.length_append, List.length_cons, List.length_nil]); omega) (ev_pos (by (try simp only [mkS_append, mkS_size, List.length_append, List.length_cons, List.length_nil]); omega) (Ev.bind (R c hc) ?_))
  (try simp only [lit_mkS, mkS_append, mkS_size])
  refine ev_pos (by (try simp only [mkS_append, mkS_size, List.length_append, List.length_cons, List.length_nil]); omega) (ev_pos (by (try simp only [mkS_append, mkS_size, List.length_append, List.length_cons, List.length_nil]); omega) (Ev.bind (R d hd) ?_))
  (try simp only [lit_mkS, mkS_append, mkS_size])
  refine ev_pos (by (try simp only [mkS_append, mkS_size, List.length_append, List.length_cons, List.length_nil]); omega) (ev_pos (by (try simp only [mkS_append, mkS_size, List.length_append, List.length_cons, List.length_nil]); omega) (Ev.bind (R e he) ?_))
  (try simp only [lit_mkS, mkS_append, mkS_size])
  refine ev_pos (by (try simp only [mkS_append, mkS_size, List.length_append, List.length_cons, List.length_nil]); omega) (ev_sub (ev_now _) ?_)
  rw [mkS_inj]
  simp [pairs, meterW]
 ·rw [if_neg h]
  exact ev_neg (by rw [decide_eq_true_eq]; exact h) (ev_now _)
end Go.Proofs.YtaljjdodjimgdaaGreatDoor.P
namespace Go.Proofs.YtaljjdodjimgdaaGreatDoor.P
open Go.RowKit Go.Proofs.YtaljjdodjimgdaaGreatDoorW.PrintWords Go.Proofs.YtaljjdodjimgdaaGreatDoorW.PrintLast Go.Proofs.YtaljjdodjimgdaaGreatDoorW.PrintMore
attribute [local go_sem] max2_int min2_int max_two min_two max_three min_three max_four min_four
set_option linter.unusedVariables false
set_option linter.unusedSimpArgs false
theorem eqA23 (d : Nat) (w : World) (x0 y0 : Int) (x1 y1 : Int) (x2 y2 : Int) (x3 y3 : Int) (x4 y4 : Int) :
  (Op.equalIn (d + 2) 23 (.agg #[.int .i64 x0, .int .i64 x1, .int .i64 x2, .int .i64 x3, .int .i64 x4]) (.agg #[.int .i64 y0, .int .i64 y1, .int .i64 y2, .int .i64 y3, .int .i64 y4])).run Tryz.prog w = .ok (x0 == y0 && (x1 == y1 && (x2 == y2 && (x3 == y3 && (x4 == y4))))) w := by
 refine eqA_of Tryz.underlying23 (by kernel_rfl) ?_
 refine eqf_cons (by rfl) (by go_simp; rfl) (by go_simp; rfl) (by go_simp) ?_
 refine eqf_cons (by rfl) (by go_simp; rfl) (by go_simp; rfl) (by go_simp) ?_
 refine eqf_cons (by rfl) (by go_simp; rfl) (by go_simp; rfl) (by go_simp) ?_
 refine eqf_cons (by rfl) (by go_simp; rfl) (by go_simp; rfl) (by go_simp) ?_
 exact eqf_last (by rfl) (by go_simp; rfl) (by go_simp; rfl) (by go_simp)
end Go.Proofs.YtaljjdodjimgdaaGreatDoor.P
namespace Go.Proofs.YtaljjdodjimgdaaGreatDoor.P
open Go.RowKit Go.Proofs.YtaljjdodjimgdaaGreatDoorW.PrintWords Go.Proofs.YtaljjdodjimgdaaGreatDoorW.PrintLast Go.Proofs.YtaljjdodjimgdaaGreatDoorW.PrintMore
attribute [local go_sem] max2_int min2_int max_two min_two max_three min_three max_four min_four
set_option linter.unusedVariables false
set_option linter.unusedSimpArgs false
attribute [local go_sem high] eqA23
def oculuslaw45_ReplyBack.j0 : Nat → ByteArray → Bool → Int → Int → Int → Int → Int → Option (Bool)
 | 0, _, _, _, _, _, _, _ => none
 | k + 1, x2, x62, x315000, x315001, x315002, x315003, x315004 => if x62 = true then (some false) else ((oculusref36_Right.f x315000 x315001 x315002 x315003 x315004).bind fun t324 => (if t324 = true then ((reply_Cost.f x315000 x315001 x315002 x315003 x315004).bind fun t326 => ((reply_ReadCost.f t326).bind fun bt327 => ((reply_ReadCost.f x2).bind fun bt334 => ((oculusref45_ReadCost.f k x2).bind fun bt341 => ((reply_Cost.f x315000 x315001 x315002 x315003 x315004).bind fun t348 => ((oculusref45_Cost.f k x315000 x315001 x315002 x315003 x315004).bind fun t349 => (if t348.toList = t349.toList then (if bt327.2.2.2.2.2 = true then (if (bt327.1 == x315000 && (bt327.2.1 == x315001 && (bt327.2.2.1 == x315002 && (bt327.2.2.2.1 == x315003 && (bt327.2.2.2.2.1 == x315004))))) = true then (if (bt334.1 == bt341.1 && (bt334.2.1 == bt341.2.1 && (bt334.2.2.1 == bt341.2.2.1 && (bt334.2.2.2.1 == bt341.2.2.2.1 && (bt334.2.2.2.2.1 == bt341.2.2.2.2.1))))) = true then (if (bt334.2.2.2.2.2 == bt341.2.2.2.2.2) = true then ((oculuslaw45_alive.f k).bind fun t350 => (some t350)) else (some false)) else (some false)) else (some false)) else (some false)) else (some false)))))))) else ((oculuslaw45_alive.f k).bind fun t325 => (some t325))))
def oculuslaw45_ReplyBack.f (k : Nat) (a0 : Int) (a1_0 : Int) (a1_1 : Int) (a1_2 : Int) (a1_3 : Int) (a1_4 : Int) (a2 : ByteArray) : Option (Bool) := if (a2.size : Int) > 200 then ((oculuslaw45_alive.f k).bind fun t315 => (some t315)) else ((reply_Error.f k a0).bind fun t316 => ((reply_ReadError.f k t316).bind fun bt317 => ((reply_ReadError.f k a2).bind fun bt319 => ((oculusref45_Error.f k a0).bind fun t321 => (if t316.toList = t321.toList then (if (bt317.2 != (!t316.toList.isEmpty)) = true then (oculuslaw45_ReplyBack.j0 k a2 true a1_0 a1_1 a1_2 a1_3 a1_4) else (if bt317.2 = true then (if bt317.1 = a0 then ((oculusref45_ReadError.f k a2).bind fun t322 => (if bt319.1 = t322 then (oculuslaw45_ReplyBack.j0 k a2 (bt319.2 != (bt319.1 != 0)) a1_0 a1_1 a1_2 a1_3 a1_4) else (oculuslaw45_ReplyBack.j0 k a2 true a1_0 a1_1 a1_2 a1_3 a1_4))) else (oculuslaw45_ReplyBack.j0 k a2 true a1_0 a1_1 a1_2 a1_3 a1_4)) else ((oculusref45_ReadError.f k a2).bind fun t323 => (if bt319.1 = t323 then (oculuslaw45_ReplyBack.j0 k a2 (bt319.2 != (bt319.1 != 0)) a1_0 a1_1 a1_2 a1_3 a1_4) else (oculuslaw45_ReplyBack.j0 k a2 true a1_0 a1_1 a1_2 a1_3 a1_4))))) else (oculuslaw45_ReplyBack.j0 k a2 true a1_0 a1_1 a1_2 a1_3 a1_4))))))
def oculuslaw45_ReplyBack.T13 : Bool × List (List Nat × List Nat) := (true, [([], []), ([0], [0]), ([], []), ([2, 1], [2]), ([1, 3], [1, 3]), ([4, 3], [4]), ([5], [5]), ([5, 6], [5, 6]), ([7, 5], [7]), ([8], [8]), ([8], [8]), ([9, 10, 8], [8, 9, 10]), ([8, 11], [8, 11]), ([12, 8], [12]), ([13], [13]), ([13], [13]), ([15, 13], [13, 15]), ([14, 16, 13], [13, 14, 16]), ([13, 17], [13, 17]), ([18, 13], [18]), ([19], [19]), ([19], [19]), ([21, 19], [19, 21]), ([20, 22, 19], [19, 20, 22]), ([19, 23], [19, 23]), ([24, 19], [24]), ([25, 25], [25]), ([25, 26], [25, 26]), ([27, 26, 0, 1, 2, 3, 4, 5, 6, 7, 8, 9, 10, 11, 12, 13, 14, 15, 16, 17, 18, 19, 20, 21, 22, 23, 24, 25, 26, 27], [27])])
def oculuslaw45_ReplyBack.B13 : List Nat := [0, 1, 0, 7, 15, 31, 63, 127, 255, 511, 511, 2047, 4095, 8191, 16383, 16383, 49151, 131071, 262143, 524287, 1048575, 1048575, 3145727, 8388607, 16777215, 33554431, 67108863, 134217727, 268435455]
theorem oculuslaw45_ReplyBack.tab13 : rtab .any (opsOf Tryz.f3 13) = oculuslaw45_ReplyBack.T13 := by kernel_rfl
theorem oculuslaw45_ReplyBack.bits13 : waitsOk oculuslaw45_ReplyBack.T13.2 oculuslaw45_ReplyBack.B13 = true := by kernel_rfl
set_option maxHeartbeats 8000000 in
set_option maxRecDepth 100000 in
theorem oculuslaw45_ReplyBack.calls (k : Nat) (a0 : Int) (a1_0 : Int) (a1_1 : Int) (a1_2 : Int) (a1_3 : Int) (a1_4 : Int) (a2 : ByteArray) (r : Bool) (w : World) (hv1 : ∀ s s', reply_Error.f k a0 = some s → oculusref45_Error.f k a0 = some s' → s.toList = s'.toList)
  (hv2 : ∀ s x o, reply_Error.f k a0 = some s → reply_ReadError.f k s = some (x, o) → s.toList.isEmpty = !o ∧ (o = true → x = a0))
  (hv3 : ∀ y q z, ¬ (a2.size : Int) > 200 → reply_ReadError.f k a2 = some (y, q) → oculusref45_ReadError.f k a2 = some z → y = z)
  (hv4 : ∀ q s s', oculusref36_Right.f a1_0 a1_1 a1_2 a1_3 a1_4 = some true → reply_Cost.f a1_0 a1_1 a1_2 a1_3 a1_4 = some s → oculusref45_Cost.f q a1_0 a1_1 a1_2 a1_3 a1_4 = some s' → s.toList = s'.toList)
  (hv5 : ∀ s b c d e f o, oculusref36_Right.f a1_0 a1_1 a1_2 a1_3 a1_4 = some true → reply_Cost.f a1_0 a1_1 a1_2 a1_3 a1_4 = some s → reply_ReadCost.f s = some (b, c, d, e, f, o) → o = true ∧ (b == a1_0 && (c == a1_1 && (d == a1_2 && (e == a1_3 && (f == a1_4))))) = true)
  (hv6 : ∀ q b c d e f o b' c' d' e' f' o', ¬ (a2.size : Int) > 200 → reply_ReadCost.f a2 = some (b, c, d, e, f, o) → oculusref45_ReadCost.f q a2 = some (b', c', d', e', f', o') → (b == b' && (c == c' && (d == d' && (e == e' && (f == f'))))) = true ∧ (o == o') = true)
  (hG : GInv2 w) (h : oculuslaw45_ReplyBack.f k a0 a1_0 a1_1 a1_2 a1_3 a1_4 a2 = some r) :
  Calls Tryz.prog 3 #[.int .i64 a0, .agg #[.int .i64 a1_0, .int .i64 a1_1, .int .i64 a1_2, .int .i64 a1_3, .int .i64 a1_4], .string a2] w fun e w' => e = .returned (.bool r) ∧ Below w.heap.size w w' := by
 have hu23 := Tryz.underlying23
 have hu36 := Tryz.underlying36
 have HV1 := Aside0.mk hv1
 have HV2 := Aside0.mk hv2
 have HV3 := Aside0.mk hv3
 have HV4 := Aside0.mk hv4
 have HV5 := Aside0.mk hv5
 have HV6 := Aside0.mk hv6
 clear hv1 hv2 hv3 hv4 hv5 hv6
 have HG := Aside0.mk hG
 clear hG
 have HB := Aside0.mk (Below.refl w.heap.size w)
 have H : (if (a2.size : Int) > 200 then ((oculuslaw45_alive.f k).bind fun t315 => (some t315)) else ((reply_Error.f k a0).bind fun t316 => ((reply_ReadError.f k t316).bind fun bt317 => ((reply_ReadError.f k a2).bind fun bt319 => ((oculusref45_Error.f k a0).bind fun t321 => (if t316.toList = t321.toList then (if (bt317.2 != (!t316.toList.isEmpty)) = true then (oculuslaw45_ReplyBack.j0 k a2 true a1_0 a1_1 a1_2 a1_3 a1_4) else (if bt317.2 = true then (if bt317.1 = a0 then ((oculusref45_ReadError.f k a2).bind fun t322 => (if bt319.1 = t322 then (oculuslaw45_ReplyBack.j0 k a2 (bt319.2 != (bt319.1 != 0)) a1_0 a1_1 a1_2 a1_3 a1_4) else (oculuslaw45_ReplyBack.j0 k a2 true a1_0 a1_1 a1_2 a1_3 a1_4))) else (oculuslaw45_ReplyBack.j0 k a2 true a1_0 a1_1 a1_2 a1_3 a1_4)) else ((oculusref45_ReadError.f k a2).bind fun t323 => (if bt319.1 = t323 then (oculuslaw45_ReplyBack.j0 k a2 (bt319.2 != (bt319.1 != 0)) a1_0 a1_1 a1_2 a1_3 a1_4) else (oculuslaw45_ReplyBack.j0 k a2 true a1_0 a1_1 a1_2 a1_3 a1_4))))) else (oculuslaw45_ReplyBack.j0 k a2 true a1_0 a1_1 a1_2 a1_3 a1_4))))))) = some r := h
 clear h
 by_cases c4 : (a2.size : Int) > 200
 ·rw [if_pos c4] at H
  have c4b0 : decide (200 < (a2.size : Int)) = true := decide_eq_true c4
  have c4b1 : decide (200 < a2.size) = true := decide_eq_true (by omega)
  clear c4
  replace H := Option.bind_eq_some_iff.mp H
  obtain ⟨t315, A50, H⟩ := H
  replace H : (some t315) = some r := H
  have A5 := Aside0.mk A50
  clear A50
  obtain rfl := Option.some.inj H
  go_enter Tryz.func3, Tryz.ntmps3
  go_wp2_with (first | ((with_reducible refine gate_dst (N := 4) rfl ?_); refine box_event ?hg (N := 4) ?hd (cs := #[.int .i64 a1_0, .int .i64 a1_1, .int .i64 a1_2, .int .i64 a1_3, .int .i64 a1_4]) (t := 23) ?hr ?_; (case hd => rfl); (case hg => rfl); (case hr => first | (go_simp; done) | (go_simp; rfl)); intro gb314 hg w6 hbox hb; have n0_ := Aside0.mk (below_step (by repeat (first | (with_reducible first | exact HB.out | apply below_alloc | apply pw_below_drewN | apply below_drew1) | exact HB.out)) hb); have n1_ := Aside0.mk (hbox); have n2_ := Aside0.mk ((by rw [hg]; exact (below_size (by repeat (first | (with_reducible first | exact HB.out | apply below_alloc | apply pw_below_drewN | apply below_drew1) | exact HB.out))) : w.heap.size ≤ gb314)); have n3_ := Aside0.mk ((by rw [hg]; exact (below_size (by repeat (first | (with_reducible first | exact HB.out | apply below_alloc | apply pw_below_drewN | apply below_drew1) | exact HB.out))) : w.heap.size ≤ gb314)); clear HB; have HB := n0_; have BK314 := n1_; have GW314 := n2_; have GE314 := n3_; clear n0_ n1_ n2_ n3_; clear hb hbox hg) | ((with_reducible refine gate_callee (f := 4) rfl ?_); refine goesL_ (some 20) rfl rfl Tryz.func4 (by kernel_rfl) rfl #[] rfl (by (try simp only [List.map_toArray, List.map_cons, List.map_nil]); first | done | rfl | (simp only [List.length_drop, List.length_take]; rfl)) ?_; (with_reducible refine (oculuslaw45_alive.calls k  t315 _ ?side1 A5.out).mono ?_); (case side1 => exact GInv.below (GInv2.one HG.out) (by repeat (first | (with_reducible first | exact HB.out | apply below_alloc | apply pw_below_drewN | apply below_drew1 | refine below_set ?_ GE314.out) | exact HB.out))); rintro e w7 ⟨rfl, hb⟩; refine ⟨_, rfl, ?_⟩; have n0_ := Aside0.mk (blk_below (g := gb314) (o := .cells #[.int .i64 a1_0, .int .i64 a1_1, .int .i64 a1_2, .int .i64 a1_3, .int .i64 a1_4] 23 (0, 0)) (by (with_reducible repeat (first | refine blk_drewN ?_ _ | refine blk_drew ?_ | refine blk_alloc ?_ _)); exact BK314.out) hb); have n1_ := Aside0.mk (below_step (by repeat (first | (with_reducible first | exact HB.out | apply below_alloc | apply pw_below_drewN | apply below_drew1 | refine below_set ?_ GE314.out) | exact HB.out)) hb); clear BK314; clear HB; have BK314 := n0_; have HB := n1_; clear n0_ n1_; (try clear hb); (try clear hb2); (try clear hk); (try clear hi)))
  go_ret
  exact ⟨by first | rfl | (simp [errW_none, errW_some] <;> rfl) | (simp [*, errW_none, errW_some] <;> rfl), by repeat (first | (with_reducible first | exact HB.out | apply below_alloc | apply pw_below_drewN | apply below_drew1 | refine below_set ?_ GE314.out) | exact HB.out)⟩
 ·rw [if_neg c4] at H
  have HT := Aside0.mk c4
  have c4b0 : decide (200 < (a2.size : Int)) = false := decide_eq_false c4
  have c4b1 : decide (200 < a2.size) = false := decide_eq_false (by omega)
  clear c4
  replace H := Option.bind_eq_some_iff.mp H
  obtain ⟨t316, A80, H⟩ := H
  replace H : ((reply_ReadError.f k t316).bind fun bt317 => ((reply_ReadError.f k a2).bind fun bt319 => ((oculusref45_Error.f k a0).bind fun t321 => (if t316.toList = t321.toList then (if (bt317.2 != (!t316.toList.isEmpty)) = true then (oculuslaw45_ReplyBack.j0 k a2 true a1_0 a1_1 a1_2 a1_3 a1_4) else (if bt317.2 = true then (if bt317.1 = a0 then ((oculusref45_ReadError.f k a2).bind fun t322 => (if bt319.1 = t322 then (oculuslaw45_ReplyBack.j0 k a2 (bt319.2 != (bt319.1 != 0)) a1_0 a1_1 a1_2 a1_3 a1_4) else (oculuslaw45_ReplyBack.j0 k a2 true a1_0 a1_1 a1_2 a1_3 a1_4))) else (oculuslaw45_ReplyBack.j0 k a2 true a1_0 a1_1 a1_2 a1_3 a1_4)) else ((oculusref45_ReadError.f k a2).bind fun t323 => (if bt319.1 = t323 then (oculuslaw45_ReplyBack.j0 k a2 (bt319.2 != (bt319.1 != 0)) a1_0 a1_1 a1_2 a1_3 a1_4) else (oculuslaw45_ReplyBack.j0 k a2 true a1_0 a1_1 a1_2 a1_3 a1_4))))) else (oculuslaw45_ReplyBack.j0 k a2 true a1_0 a1_1 a1_2 a1_3 a1_4))))) = some r := H
  have A8 := Aside0.mk A80
  clear A80
  replace H := Option.bind_eq_some_iff.mp H
  obtain ⟨⟨t317, t318⟩, A90, H⟩ := H
  replace H : ((reply_ReadError.f k a2).bind fun bt319 => ((oculusref45_Error.f k a0).bind fun t321 => (if t316.toList = t321.toList then (if (t318 != (!t316.toList.isEmpty)) = true then (oculuslaw45_ReplyBack.j0 k a2 true a1_0 a1_1 a1_2 a1_3 a1_4) else (if t318 = true then (if t317 = a0 then ((oculusref45_ReadError.f k a2).bind fun t322 => (if bt319.1 = t322 then (oculuslaw45_ReplyBack.j0 k a2 (bt319.2 != (bt319.1 != 0)) a1_0 a1_1 a1_2 a1_3 a1_4) else (oculuslaw45_ReplyBack.j0 k a2 true a1_0 a1_1 a1_2 a1_3 a1_4))) else (oculuslaw45_ReplyBack.j0 k a2 true a1_0 a1_1 a1_2 a1_3 a1_4)) else ((oculusref45_ReadError.f k a2).bind fun t323 => (if bt319.1 = t323 then (oculuslaw45_ReplyBack.j0 k a2 (bt319.2 != (bt319.1 != 0)) a1_0 a1_1 a1_2 a1_3 a1_4) else (oculuslaw45_ReplyBack.j0 k a2 true a1_0 a1_1 a1_2 a1_3 a1_4))))) else (oculuslaw45_ReplyBack.j0 k a2 true a1_0 a1_1 a1_2 a1_3 a1_4)))) = some r := H
  have A9 := Aside0.mk A90
  clear A90
  replace H := Option.bind_eq_some_iff.mp H
  obtain ⟨⟨t319, t320⟩, A100, H⟩ := H
  replace H : ((oculusref45_Error.f k a0).bind fun t321 => (if t316.toList = t321.toList then (if (t318 != (!t316.toList.isEmpty)) = true then (oculuslaw45_ReplyBack.j0 k a2 true a1_0 a1_1 a1_2 a1_3 a1_4) else (if t318 = true then (if t317 = a0 then ((oculusref45_ReadError.f k a2).bind fun t322 => (if t319 = t322 then (oculuslaw45_ReplyBack.j0 k a2 (t320 != (t319 != 0)) a1_0 a1_1 a1_2 a1_3 a1_4) else (oculuslaw45_ReplyBack.j0 k a2 true a1_0 a1_1 a1_2 a1_3 a1_4))) else (oculuslaw45_ReplyBack.j0 k a2 true a1_0 a1_1 a1_2 a1_3 a1_4)) else ((oculusref45_ReadError.f k a2).bind fun t323 => (if t319 = t323 then (oculuslaw45_ReplyBack.j0 k a2 (t320 != (t319 != 0)) a1_0 a1_1 a1_2 a1_3 a1_4) else (oculuslaw45_ReplyBack.j0 k a2 true a1_0 a1_1 a1_2 a1_3 a1_4))))) else (oculuslaw45_ReplyBack.j0 k a2 true a1_0 a1_1 a1_2 a1_3 a1_4))) = some r := H
  have A10 := Aside0.mk A100
  clear A100
  have HC11 := Aside0.mk H
  clear H
  go_enter Tryz.func3, Tryz.ntmps3
  go_upto_region 6 with (first | ((with_reducible refine gate_dst (N := 4) rfl ?_); refine box_event ?hg (N := 4) ?hd (cs := #[.int .i64 a1_0, .int .i64 a1_1, .int .i64 a1_2, .int .i64 a1_3, .int .i64 a1_4]) (t := 23) ?hr ?_; (case hd => rfl); (case hg => rfl); (case hr => first | (go_simp; done) | (go_simp; rfl)); intro gb314 hg w12 hbox hb; have n0_ := Aside0.mk (below_step (by repeat (first | (with_reducible first | exact HB.out | apply below_alloc | apply pw_below_drewN | apply below_drew1) | exact HB.out)) hb); have n1_ := Aside0.mk (hbox); have n2_ := Aside0.mk ((by rw [hg]; exact (below_size (by repeat (first | (with_reducible first | exact HB.out | apply below_alloc | apply pw_below_drewN | apply below_drew1) | exact HB.out))) : w.heap.size ≤ gb314)); have n3_ := Aside0.mk ((by rw [hg]; exact (below_size (by repeat (first | (with_reducible first | exact HB.out | apply below_alloc | apply pw_below_drewN | apply below_drew1) | exact HB.out))) : w.heap.size ≤ gb314)); clear HB; have HB := n0_; have BK314 := n1_; have GW314 := n2_; have GE314 := n3_; clear n0_ n1_ n2_ n3_; clear hb hbox hg) | ((with_reducible refine gate_callee (f := 5) rfl ?_); refine goesL_ (some 22) rfl rfl Tryz.func5 (by kernel_rfl) rfl #[.int .i64 a0] rfl (by (try simp only [List.map_toArray, List.map_cons, List.map_nil]); first | done | rfl | (simp only [List.length_drop, List.length_take]; rfl)) ?_; (with_reducible refine (reply_Error.calls k a0 t316 _ ?side1 A8.out).mono ?_); (case side1 => exact GInv.below (GInv2.one HG.out) (by repeat (first | (with_reducible first | exact HB.out | apply below_alloc | apply pw_below_drewN | apply below_drew1 | refine below_set ?_ GE314.out) | exact HB.out))); rintro e w13 ⟨rfl, hb⟩; refine ⟨_, rfl, ?_⟩; have n0_ := Aside0.mk (blk_below (g := gb314) (o := .cells #[.int .i64 a1_0, .int .i64 a1_1, .int .i64 a1_2, .int .i64 a1_3, .int .i64 a1_4] 23 (0, 0)) (by (with_reducible repeat (first | refine blk_drewN ?_ _ | refine blk_drew ?_ | refine blk_alloc ?_ _)); exact BK314.out) hb); have n1_ := Aside0.mk (below_step (by repeat (first | (with_reducible first | exact HB.out | apply below_alloc | apply pw_below_drewN | apply below_drew1 | refine below_set ?_ GE314.out) | exact HB.out)) hb); clear BK314; clear HB; have BK314 := n0_; have HB := n1_; clear n0_ n1_; (try clear hb); (try clear hb2); (try clear hk); (try clear hi)) | ((with_reducible refine gate_callee (f := 6) rfl ?_); refine goesL_ (some 25) rfl rfl Tryz.func6 (by kernel_rfl) rfl #[.string t316] rfl (by (try simp only [List.map_toArray, List.map_cons, List.map_nil]); first | done | rfl | (simp only [List.length_drop, List.length_take]; rfl)) ?_; (with_reducible refine (reply_ReadError.calls k t316 t317 t318 _ ?side1 A9.out).mono ?_); (case side1 => exact GInv.below (GInv2.one HG.out) (by repeat (first | (with_reducible first | exact HB.out | apply below_alloc | apply pw_below_drewN | apply below_drew1 | refine below_set ?_ GE314.out) | exact HB.out))); rintro e w14 ⟨rfl, hb⟩; refine ⟨_, rfl, ?_⟩; have n0_ := Aside0.mk (blk_below (g := gb314) (o := .cells #[.int .i64 a1_0, .int .i64 a1_1, .int .i64 a1_2, .int .i64 a1_3, .int .i64 a1_4] 23 (0, 0)) (by (with_reducible repeat (first | refine blk_drewN ?_ _ | refine blk_drew ?_ | refine blk_alloc ?_ _)); exact BK314.out) hb); have n1_ := Aside0.mk (below_step (by repeat (first | (with_reducible first | exact HB.out | apply below_alloc | apply pw_below_drewN | apply below_drew1 | refine below_set ?_ GE314.out) | exact HB.out)) hb); clear BK314; clear HB; have BK314 := n0_; have HB := n1_; clear n0_ n1_; (try clear hb); (try clear hb2); (try clear hk); (try clear hi)) | ((with_reducible refine gate_callee (f := 6) rfl ?_); refine goesL_ (some 30) rfl rfl Tryz.func6 (by kernel_rfl) rfl #[.string a2] rfl (by (try simp only [List.map_toArray, List.map_cons, List.map_nil]); first | done | rfl | (simp only [List.length_drop, List.length_take]; rfl)) ?_; (with_reducible refine (reply_ReadError.calls k a2 t319 t320 _ ?side1 A10.out).mono ?_); (case side1 => exact GInv.below (GInv2.one HG.out) (by repeat (first | (with_reducible first | exact HB.out | apply below_alloc | apply pw_below_drewN | apply below_drew1 | refine below_set ?_ GE314.out) | exact HB.out))); rintro e w15 ⟨rfl, hb⟩; refine ⟨_, rfl, ?_⟩; have n0_ := Aside0.mk (blk_below (g := gb314) (o := .cells #[.int .i64 a1_0, .int .i64 a1_1, .int .i64 a1_2, .int .i64 a1_3, .int .i64 a1_4] 23 (0, 0)) (by (with_reducible repeat (first | refine blk_drewN ?_ _ | refine blk_drew ?_ | refine blk_alloc ?_ _)); exact BK314.out) hb); have n1_ := Aside0.mk (below_step (by repeat (first | (with_reducible first | exact HB.out | apply below_alloc | apply pw_below_drewN | apply below_drew1 | refine below_set ?_ GE314.out) | exact HB.out)) hb); clear BK314; clear HB; have BK314 := n0_; have HB := n1_; clear n0_ n1_; (try clear hb); (try clear hb2); (try clear hk); (try clear hi)))
  (try simp only [Act.put, List.setIfInBounds_toArray, List.set_cons_zero, List.set_cons_succ])
  go_cut [62] (fun v62 wc => ∃ (kq : Nat) (x62_10 : Bool), v62 = .bool x62_10 ∧ Aside0 (oculuslaw45_ReplyBack.j0 kq a2 x62_10 a1_0 a1_1 a1_2 a1_3 a1_4 = some r) ∧ Aside0 (kq ≤ k) ∧ Aside0 (wc.heap[gb314]? = some (.cells #[.int .i64 a1_0, .int .i64 a1_1, .int .i64 a1_2, .int .i64 a1_3, .int .i64 a1_4] 23 (0, 0))) ∧ Aside0 (Below w.heap.size w wc))
  case first =>
   have H := HC11.out
   clear HC11
   replace H := Option.bind_eq_some_iff.mp H
   obtain ⟨t321, A160, H⟩ := H
   replace H : (if t316.toList = t321.toList then (if (t318 != (!t316.toList.isEmpty)) = true then (oculuslaw45_ReplyBack.j0 k a2 true a1_0 a1_1 a1_2 a1_3 a1_4) else (if t318 = true then (if t317 = a0 then ((oculusref45_ReadError.f k a2).bind fun t322 => (if t319 = t322 then (oculuslaw45_ReplyBack.j0 k a2 (t320 != (t319 != 0)) a1_0 a1_1 a1_2 a1_3 a1_4) else (oculuslaw45_ReplyBack.j0 k a2 true a1_0 a1_1 a1_2 a1_3 a1_4))) else (oculuslaw45_ReplyBack.j0 k a2 true a1_0 a1_1 a1_2 a1_3 a1_4)) else ((oculusref45_ReadError.f k a2).bind fun t323 => (if t319 = t323 then (oculuslaw45_ReplyBack.j0 k a2 (t320 != (t319 != 0)) a1_0 a1_1 a1_2 a1_3 a1_4) else (oculuslaw45_ReplyBack.j0 k a2 true a1_0 a1_1 a1_2 a1_3 a1_4))))) else (oculuslaw45_ReplyBack.j0 k a2 true a1_0 a1_1 a1_2 a1_3 a1_4)) = some r := H
   have A16 := Aside0.mk A160
   clear A160
   by_cases c17 : t316.toList = t321.toList
   ·rw [if_pos c17] at H
    have c17b0 : (t316.toList == t321.toList) = true := beq_iff_eq.mpr c17
    have c17b1 : (t316.toList != t321.toList) = false := bne_eq_false_iff_eq.mpr c17
    clear c17
    (first | rw [c17b0] | (simp only [i64_w, i32_w]; rw [c17b0]) | skip)
    by_cases c18 : (t318 != (!t316.toList.isEmpty)) = true
    ·exact absurd c18 (by rw [(HV2.out _ _ _ A8.out A9.out).1]; cases t318 <;> decide)
    ·rw [if_neg c18] at H
     have c18b0 : (t318 != (!t316.toList.isEmpty)) = false := by simpa using c18
     (try (have c18b1 : decide (t318 = (!t316.toList.isEmpty)) = true := by simpa using c18))
     (try (have c18b2 : (t318 == (!t316.toList.isEmpty)) = true := by simpa using c18))
     clear c18
     by_cases c20 : t318 = true
     ·subst c20
      have hE : t316.toList.isEmpty = false := (HV2.out _ _ _ A8.out A9.out).1
      have H1 : (if t317 = a0 then ((oculusref45_ReadError.f k a2).bind fun t322 => (if t319 = t322 then (oculuslaw45_ReplyBack.j0 k a2 (t320 != (t319 != 0)) a1_0 a1_1 a1_2 a1_3 a1_4) else (oculuslaw45_ReplyBack.j0 k a2 true a1_0 a1_1 a1_2 a1_3 a1_4))) else (oculuslaw45_ReplyBack.j0 k a2 true a1_0 a1_1 a1_2 a1_3 a1_4)) = some r := by rw [if_pos rfl] at H; exact H
      clear H
      have H := H1
      clear H1
      by_cases c21 : t317 = a0
      ·rw [if_pos c21] at H
       have c21b0 : (t317 == a0) = true := beq_iff_eq.mpr c21
       have c21b1 : (t317 != a0) = false := bne_eq_false_iff_eq.mpr c21
       clear c21
       replace H := Option.bind_eq_some_iff.mp H
       obtain ⟨t322, A220, H⟩ := H
       replace H : (if t319 = t322 then (oculuslaw45_ReplyBack.j0 k a2 (t320 != (t319 != 0)) a1_0 a1_1 a1_2 a1_3 a1_4) else (oculuslaw45_ReplyBack.j0 k a2 true a1_0 a1_1 a1_2 a1_3 a1_4)) = some r := H
       have A22 := Aside0.mk A220
       clear A220
       by_cases c23 : t319 = t322
       ·rw [if_pos c23] at H
        have c23b0 : (t319 == t322) = true := beq_iff_eq.mpr c23
        have c23b1 : (t319 != t322) = false := bne_eq_false_iff_eq.mpr c23
        clear c23
        have H' := Aside0.mk H
        clear H
        go_wp2_with (first | ((with_reducible refine gate_callee (f := 7) rfl ?_); refine goesL_ (some 35) rfl rfl Tryz.func7 (by kernel_rfl) rfl #[.int .i64 a0] rfl (by (try simp only [List.map_toArray, List.map_cons, List.map_nil]); first | done | rfl | (simp only [List.length_drop, List.length_take]; rfl)) ?_; (with_reducible refine (oculusref45_Error.calls k a0 t321 _ A16.out).mono ?_); rintro e w24 ⟨rfl, hb⟩; refine ⟨_, rfl, ?_⟩; have n0_ := Aside0.mk (blk_below (g := gb314) (o := .cells #[.int .i64 a1_0, .int .i64 a1_1, .int .i64 a1_2, .int .i64 a1_3, .int .i64 a1_4] 23 (0, 0)) (by (with_reducible repeat (first | refine blk_drewN ?_ _ | refine blk_drew ?_ | refine blk_alloc ?_ _)); exact BK314.out) hb); have n1_ := Aside0.mk (below_step (by repeat (first | (with_reducible first | exact HB.out | apply below_alloc | apply pw_below_drewN | apply below_drew1 | refine below_set ?_ GE314.out) | exact HB.out)) hb); clear BK314; clear HB; have BK314 := n0_; have HB := n1_; clear n0_ n1_; (try clear hb); (try clear hb2); (try clear hk); (try clear hi)) | (go_at_call 8; (with_reducible refine (oculusref45_ReadError.calls k a2 t322 _ A22.out).mono ?_); rintro e w25 ⟨rfl, hb⟩; have n0_ := Aside0.mk (blk_below (g := gb314) (o := .cells #[.int .i64 a1_0, .int .i64 a1_1, .int .i64 a1_2, .int .i64 a1_3, .int .i64 a1_4] 23 (0, 0)) (by (with_reducible repeat (first | refine blk_drewN ?_ _ | refine blk_drew ?_ | refine blk_alloc ?_ _)); exact BK314.out) hb); have n1_ := Aside0.mk (below_step (by repeat (first | (with_reducible first | exact HB.out | apply below_alloc | apply pw_below_drewN | apply below_drew1 | refine below_set ?_ GE314.out) | exact HB.out)) hb); clear BK314; clear HB; have BK314 := n0_; have HB := n1_; clear n0_ n1_; (try clear hb); (try clear hb2); (try clear hk); (try clear hi)))
        go_meet
        case rel => exact ⟨_, ((t320 != (t319 != 0))), (by first | rfl | (simp; done) | (simp [*]; done)), H', ⟨by first | omega | exact Nat.le_refl _⟩, ⟨by (with_reducible repeat (first | refine blk_drewN ?_ _ | refine blk_drew ?_ | refine blk_alloc ?_ _)); exact BK314.out⟩, ⟨by repeat (first | (with_reducible first | exact HB.out | apply below_alloc | apply pw_below_drewN | apply below_drew1 | refine below_set ?_ GE314.out) | exact HB.out)⟩⟩
       ·exact absurd (HV3.out _ _ _ HT.out A10.out A22.out) c23
      ·exact absurd ((HV2.out _ _ _ A8.out A9.out).2 rfl) c21
     ·replace c20 := Bool.eq_false_iff.mpr c20
      subst c20
      have hE : t316.toList.isEmpty = true := (HV2.out _ _ _ A8.out A9.out).1
      have H1 : ((oculusref45_ReadError.f k a2).bind fun t323 => (if t319 = t323 then (oculuslaw45_ReplyBack.j0 k a2 (t320 != (t319 != 0)) a1_0 a1_1 a1_2 a1_3 a1_4) else (oculuslaw45_ReplyBack.j0 k a2 true a1_0 a1_1 a1_2 a1_3 a1_4))) = some r := by rw [if_neg (show ¬ (false = true) by decide)] at H; exact H
      clear H
      have H := H1
      clear H1
      replace H := Option.bind_eq_some_iff.mp H
      obtain ⟨t323, A290, H⟩ := H
      replace H : (if t319 = t323 then (oculuslaw45_ReplyBack.j0 k a2 (t320 != (t319 != 0)) a1_0 a1_1 a1_2 a1_3 a1_4) else (oculuslaw45_ReplyBack.j0 k a2 true a1_0 a1_1 a1_2 a1_3 a1_4)) = some r := H
      have A29 := Aside0.mk A290
      clear A290
      by_cases c30 : t319 = t323
      ·rw [if_pos c30] at H
       have c30b0 : (t319 == t323) = true := beq_iff_eq.mpr c30
       have c30b1 : (t319 != t323) = false := bne_eq_false_iff_eq.mpr c30
       clear c30
       have H' := Aside0.mk H
       clear H
       go_wp2_with (first | ((with_reducible refine gate_callee (f := 7) rfl ?_); refine goesL_ (some 35) rfl rfl Tryz.func7 (by kernel_rfl) rfl #[.int .i64 a0] rfl (by (try simp only [List.map_toArray, List.map_cons, List.map_nil]); first | done | rfl | (simp only [List.length_drop, List.length_take]; rfl)) ?_; (with_reducible refine (oculusref45_Error.calls k a0 t321 _ A16.out).mono ?_); rintro e w31 ⟨rfl, hb⟩; refine ⟨_, rfl, ?_⟩; have n0_ := Aside0.mk (blk_below (g := gb314) (o := .cells #[.int .i64 a1_0, .int .i64 a1_1, .int .i64 a1_2, .int .i64 a1_3, .int .i64 a1_4] 23 (0, 0)) (by (with_reducible repeat (first | refine blk_drewN ?_ _ | refine blk_drew ?_ | refine blk_alloc ?_ _)); exact BK314.out) hb); have n1_ := Aside0.mk (below_step (by repeat (first | (with_reducible first | exact HB.out | apply below_alloc | apply pw_below_drewN | apply below_drew1 | refine below_set ?_ GE314.out) | exact HB.out)) hb); clear BK314; clear HB; have BK314 := n0_; have HB := n1_; clear n0_ n1_; (try clear hb); (try clear hb2); (try clear hk); (try clear hi)) | (go_at_call 8; (with_reducible refine (oculusref45_ReadError.calls k a2 t323 _ A29.out).mono ?_); rintro e w32 ⟨rfl, hb⟩; have n0_ := Aside0.mk (blk_below (g := gb314) (o := .cells #[.int .i64 a1_0, .int .i64 a1_1, .int .i64 a1_2, .int .i64 a1_3, .int .i64 a1_4] 23 (0, 0)) (by (with_reducible repeat (first | refine blk_drewN ?_ _ | refine blk_drew ?_ | refine blk_alloc ?_ _)); exact BK314.out) hb); have n1_ := Aside0.mk (below_step (by repeat (first | (with_reducible first | exact HB.out | apply below_alloc | apply pw_below_drewN | apply below_drew1 | refine below_set ?_ GE314.out) | exact HB.out)) hb); clear BK314; clear HB; have BK314 := n0_; have HB := n1_; clear n0_ n1_; (try clear hb); (try clear hb2); (try clear hk); (try clear hi)))
       go_meet
       case rel => exact ⟨_, ((t320 != (t319 != 0))), (by first | rfl | (simp; done) | (simp [*]; done)), H', ⟨by first | omega | exact Nat.le_refl _⟩, ⟨by (with_reducible repeat (first | refine blk_drewN ?_ _ | refine blk_drew ?_ | refine blk_alloc ?_ _)); exact BK314.out⟩, ⟨by repeat (first | (with_reducible first | exact HB.out | apply below_alloc | apply pw_below_drewN | apply below_drew1 | refine below_set ?_ GE314.out) | exact HB.out)⟩⟩
      ·exact absurd (HV3.out _ _ _ HT.out A10.out A29.out) c30
   ·exact absurd (HV1.out _ _ A8.out A16.out) c17
  case rest =>
   clear HC11
   try clear c1
   try clear c2
   try clear p2
   try clear c3
   try clear c4
   try clear c4b0
   try clear c4b1
   try clear c5
   try clear c6
   try clear c7
   try clear c17
   try clear c17b0
   try clear c17b1
   try clear c18
   try clear c18b0
   try clear c18b1
   try clear c18b2
   try clear c20
   try clear c21
   try clear c21b0
   try clear c21b1
   try clear c23
   try clear c23b0
   try clear c23b1
   try clear c30
   try clear c30b0
   try clear c30b1
   obtain ⟨kq, x62_10, rfl, HA, HJ10, BK314, HB⟩ := hcut
   cases kq with
   | zero => exact absurd HA.out (by simp [oculuslaw45_ReplyBack.j0])
   | succ kj10 =>
    have H := HA.out
    clear HA
    simp only [oculuslaw45_ReplyBack.j0] at H
    by_cases c36 : x62_10 = true
    ·subst c36
     have H1 : (some false) = some r := by rw [if_pos rfl] at H; exact H
     clear H
     have H := H1
     clear H1
     obtain rfl := Option.some.inj H
     go_wp2
     go_ret
     exact ⟨by first | rfl | (simp [errW_none, errW_some] <;> rfl) | (simp [*, errW_none, errW_some] <;> rfl), by repeat (first | (with_reducible first | exact HB.out | apply below_alloc | apply pw_below_drewN | apply below_drew1 | refine below_set ?_ GE314.out) | exact HB.out)⟩
    ·replace c36 := Bool.eq_false_iff.mpr c36
     subst c36
     have H1 : ((oculusref36_Right.f a1_0 a1_1 a1_2 a1_3 a1_4).bind fun t324 => (if t324 = true then ((reply_Cost.f a1_0 a1_1 a1_2 a1_3 a1_4).bind fun t326 => ((reply_ReadCost.f t326).bind fun bt327 => ((reply_ReadCost.f a2).bind fun bt334 => ((oculusref45_ReadCost.f kj10 a2).bind fun bt341 => ((reply_Cost.f a1_0 a1_1 a1_2 a1_3 a1_4).bind fun t348 => ((oculusref45_Cost.f kj10 a1_0 a1_1 a1_2 a1_3 a1_4).bind fun t349 => (if t348.toList = t349.toList then (if bt327.2.2.2.2.2 = true then (if (bt327.1 == a1_0 && (bt327.2.1 == a1_1 && (bt327.2.2.1 == a1_2 && (bt327.2.2.2.1 == a1_3 && (bt327.2.2.2.2.1 == a1_4))))) = true then (if (bt334.1 == bt341.1 && (bt334.2.1 == bt341.2.1 && (bt334.2.2.1 == bt341.2.2.1 && (bt334.2.2.2.1 == bt341.2.2.2.1 && (bt334.2.2.2.2.1 == bt341.2.2.2.2.1))))) = true then (if (bt334.2.2.2.2.2 == bt341.2.2.2.2.2) = true then ((oculuslaw45_alive.f kj10).bind fun t350 => (some t350)) else (some false)) else (some false)) else (some false)) else (some false)) else (some false)))))))) else ((oculuslaw45_alive.f kj10).bind fun t325 => (some t325)))) = some r := by rw [if_neg (show ¬ (false = true) by decide)] at H; exact H
     clear H
     have H := H1
     clear H1
     replace H := Option.bind_eq_some_iff.mp H
     obtain ⟨t324, A370, H⟩ := H
     replace H : (if t324 = true then ((reply_Cost.f a1_0 a1_1 a1_2 a1_3 a1_4).bind fun t326 => ((reply_ReadCost.f t326).bind fun bt327 => ((reply_ReadCost.f a2).bind fun bt334 => ((oculusref45_ReadCost.f kj10 a2).bind fun bt341 => ((reply_Cost.f a1_0 a1_1 a1_2 a1_3 a1_4).bind fun t348 => ((oculusref45_Cost.f kj10 a1_0 a1_1 a1_2 a1_3 a1_4).bind fun t349 => (if t348.toList = t349.toList then (if bt327.2.2.2.2.2 = true then (if (bt327.1 == a1_0 && (bt327.2.1 == a1_1 && (bt327.2.2.1 == a1_2 && (bt327.2.2.2.1 == a1_3 && (bt327.2.2.2.2.1 == a1_4))))) = true then (if (bt334.1 == bt341.1 && (bt334.2.1 == bt341.2.1 && (bt334.2.2.1 == bt341.2.2.1 && (bt334.2.2.2.1 == bt341.2.2.2.1 && (bt334.2.2.2.2.1 == bt341.2.2.2.2.1))))) = true then (if (bt334.2.2.2.2.2 == bt341.2.2.2.2.2) = true then ((oculuslaw45_alive.f kj10).bind fun t350 => (some t350)) else (some false)) else (some false)) else (some false)) else (some false)) else (some false)))))))) else ((oculuslaw45_alive.f kj10).bind fun t325 => (some t325))) = some r := H
     have A37 := Aside0.mk A370
     clear A370
     by_cases c38 : t324 = true
     ·subst c38
      have H1 : ((reply_Cost.f a1_0 a1_1 a1_2 a1_3 a1_4).bind fun t326 => ((reply_ReadCost.f t326).bind fun bt327 => ((reply_ReadCost.f a2).bind fun bt334 => ((oculusref45_ReadCost.f kj10 a2).bind fun bt341 => ((reply_Cost.f a1_0 a1_1 a1_2 a1_3 a1_4).bind fun t348 => ((oculusref45_Cost.f kj10 a1_0 a1_1 a1_2 a1_3 a1_4).bind fun t349 => (if t348.toList = t349.toList then (if bt327.2.2.2.2.2 = true then (if (bt327.1 == a1_0 && (bt327.2.1 == a1_1 && (bt327.2.2.1 == a1_2 && (bt327.2.2.2.1 == a1_3 && (bt327.2.2.2.2.1 == a1_4))))) = true then (if (bt334.1 == bt341.1 && (bt334.2.1 == bt341.2.1 && (bt334.2.2.1 == bt341.2.2.1 && (bt334.2.2.2.1 == bt341.2.2.2.1 && (bt334.2.2.2.2.1 == bt341.2.2.2.2.1))))) = true then (if (bt334.2.2.2.2.2 == bt341.2.2.2.2.2) = true then ((oculuslaw45_alive.f kj10).bind fun t350 => (some t350)) else (some false)) else (some false)) else (some false)) else (some false)) else (some false)))))))) = some r := by rw [if_pos rfl] at H; exact H
      clear H
      have H := H1
      clear H1
      replace H := Option.bind_eq_some_iff.mp H
      obtain ⟨t326, A390, H⟩ := H
      replace H : ((reply_ReadCost.f t326).bind fun bt327 => ((reply_ReadCost.f a2).bind fun bt334 => ((oculusref45_ReadCost.f kj10 a2).bind fun bt341 => ((reply_Cost.f a1_0 a1_1 a1_2 a1_3 a1_4).bind fun t348 => ((oculusref45_Cost.f kj10 a1_0 a1_1 a1_2 a1_3 a1_4).bind fun t349 => (if t348.toList = t349.toList then (if bt327.2.2.2.2.2 = true then (if (bt327.1 == a1_0 && (bt327.2.1 == a1_1 && (bt327.2.2.1 == a1_2 && (bt327.2.2.2.1 == a1_3 && (bt327.2.2.2.2.1 == a1_4))))) = true then (if (bt334.1 == bt341.1 && (bt334.2.1 == bt341.2.1 && (bt334.2.2.1 == bt341.2.2.1 && (bt334.2.2.2.1 == bt341.2.2.2.1 && (bt334.2.2.2.2.1 == bt341.2.2.2.2.1))))) = true then (if (bt334.2.2.2.2.2 == bt341.2.2.2.2.2) = true then ((oculuslaw45_alive.f kj10).bind fun t350 => (some t350)) else (some false)) else (some false)) else (some false)) else (some false)) else (some false))))))) = some r := H
      have A39 := Aside0.mk A390
      clear A390
      replace H := Option.bind_eq_some_iff.mp H
      obtain ⟨⟨t327, t328, t329, t330, t331, t332⟩, A400, H⟩ := H
      replace H : ((reply_ReadCost.f a2).bind fun bt334 => ((oculusref45_ReadCost.f kj10 a2).bind fun bt341 => ((reply_Cost.f a1_0 a1_1 a1_2 a1_3 a1_4).bind fun t348 => ((oculusref45_Cost.f kj10 a1_0 a1_1 a1_2 a1_3 a1_4).bind fun t349 => (if t348.toList = t349.toList then (if t332 = true then (if (t327 == a1_0 && (t328 == a1_1 && (t329 == a1_2 && (t330 == a1_3 && (t331 == a1_4))))) = true then (if (bt334.1 == bt341.1 && (bt334.2.1 == bt341.2.1 && (bt334.2.2.1 == bt341.2.2.1 && (bt334.2.2.2.1 == bt341.2.2.2.1 && (bt334.2.2.2.2.1 == bt341.2.2.2.2.1))))) = true then (if (bt334.2.2.2.2.2 == bt341.2.2.2.2.2) = true then ((oculuslaw45_alive.f kj10).bind fun t350 => (some t350)) else (some false)) else (some false)) else (some false)) else (some false)) else (some false)))))) = some r := H
      have A40 := Aside0.mk A400
      clear A400
      replace H := Option.bind_eq_some_iff.mp H
      obtain ⟨⟨t334, t335, t336, t337, t338, t339⟩, A410, H⟩ := H
      replace H : ((oculusref45_ReadCost.f kj10 a2).bind fun bt341 => ((reply_Cost.f a1_0 a1_1 a1_2 a1_3 a1_4).bind fun t348 => ((oculusref45_Cost.f kj10 a1_0 a1_1 a1_2 a1_3 a1_4).bind fun t349 => (if t348.toList = t349.toList then (if t332 = true then (if (t327 == a1_0 && (t328 == a1_1 && (t329 == a1_2 && (t330 == a1_3 && (t331 == a1_4))))) = true then (if (t334 == bt341.1 && (t335 == bt341.2.1 && (t336 == bt341.2.2.1 && (t337 == bt341.2.2.2.1 && (t338 == bt341.2.2.2.2.1))))) = true then (if (t339 == bt341.2.2.2.2.2) = true then ((oculuslaw45_alive.f kj10).bind fun t350 => (some t350)) else (some false)) else (some false)) else (some false)) else (some false)) else (some false))))) = some r := H
      have A41 := Aside0.mk A410
      clear A410
      replace H := Option.bind_eq_some_iff.mp H
      obtain ⟨⟨t341, t342, t343, t344, t345, t346⟩, A420, H⟩ := H
      replace H : ((reply_Cost.f a1_0 a1_1 a1_2 a1_3 a1_4).bind fun t348 => ((oculusref45_Cost.f kj10 a1_0 a1_1 a1_2 a1_3 a1_4).bind fun t349 => (if t348.toList = t349.toList then (if t332 = true then (if (t327 == a1_0 && (t328 == a1_1 && (t329 == a1_2 && (t330 == a1_3 && (t331 == a1_4))))) = true then (if (t334 == t341 && (t335 == t342 && (t336 == t343 && (t337 == t344 && (t338 == t345))))) = true then (if (t339 == t346) = true then ((oculuslaw45_alive.f kj10).bind fun t350 => (some t350)) else (some false)) else (some false)) else (some false)) else (some false)) else (some false)))) = some r := H
      have A42 := Aside0.mk A420
      clear A420
      replace H := Option.bind_eq_some_iff.mp H
      obtain ⟨t348, A430, H⟩ := H
      replace H : ((oculusref45_Cost.f kj10 a1_0 a1_1 a1_2 a1_3 a1_4).bind fun t349 => (if t348.toList = t349.toList then (if t332 = true then (if (t327 == a1_0 && (t328 == a1_1 && (t329 == a1_2 && (t330 == a1_3 && (t331 == a1_4))))) = true then (if (t334 == t341 && (t335 == t342 && (t336 == t343 && (t337 == t344 && (t338 == t345))))) = true then (if (t339 == t346) = true then ((oculuslaw45_alive.f kj10).bind fun t350 => (some t350)) else (some false)) else (some false)) else (some false)) else (some false)) else (some false))) = some r := H
      have A43 := Aside0.mk A430
      clear A430
      replace H := Option.bind_eq_some_iff.mp H
      obtain ⟨t349, A440, H⟩ := H
      replace H : (if t348.toList = t349.toList then (if t332 = true then (if (t327 == a1_0 && (t328 == a1_1 && (t329 == a1_2 && (t330 == a1_3 && (t331 == a1_4))))) = true then (if (t334 == t341 && (t335 == t342 && (t336 == t343 && (t337 == t344 && (t338 == t345))))) = true then (if (t339 == t346) = true then ((oculuslaw45_alive.f kj10).bind fun t350 => (some t350)) else (some false)) else (some false)) else (some false)) else (some false)) else (some false)) = some r := H
      have A44 := Aside0.mk A440
      clear A440
      by_cases c45 : t348.toList = t349.toList
      ·rw [if_pos c45] at H
       have c45b0 : (t348.toList == t349.toList) = true := beq_iff_eq.mpr c45
       have c45b1 : (t348.toList != t349.toList) = false := bne_eq_false_iff_eq.mpr c45
       clear c45
       by_cases c46 : t332 = true
       ·subst c46
        have H1 : (if (t327 == a1_0 && (t328 == a1_1 && (t329 == a1_2 && (t330 == a1_3 && (t331 == a1_4))))) = true then (if (t334 == t341 && (t335 == t342 && (t336 == t343 && (t337 == t344 && (t338 == t345))))) = true then (if (t339 == t346) = true then ((oculuslaw45_alive.f kj10).bind fun t350 => (some t350)) else (some false)) else (some false)) else (some false)) = some r := by rw [if_pos rfl] at H; exact H
        clear H
        have H := H1
        clear H1
        by_cases c47 : (t327 == a1_0 && (t328 == a1_1 && (t329 == a1_2 && (t330 == a1_3 && (t331 == a1_4))))) = true
        ·rw [if_pos c47] at H
         have c47b0 : (t327 == a1_0 && (t328 == a1_1 && (t329 == a1_2 && (t330 == a1_3 && (t331 == a1_4))))) = true := c47
         (try (have c47b1 : decide (t327 = a1_0 && (t328 == a1_1 && (t329 == a1_2 && (t330 == a1_3 && (t331 == a1_4))))) = true := by simpa using c47))
         (try (have c47b2 : (t327 == a1_0 && (t328 == a1_1 && (t329 == a1_2 && (t330 == a1_3 && (t331 == a1_4))))) = true := by simpa using c47))
         clear c47
         by_cases c48 : (t334 == t341 && (t335 == t342 && (t336 == t343 && (t337 == t344 && (t338 == t345))))) = true
         ·rw [if_pos c48] at H
          have c48b0 : (t334 == t341 && (t335 == t342 && (t336 == t343 && (t337 == t344 && (t338 == t345))))) = true := c48
          (try (have c48b1 : decide (t334 = t341 && (t335 == t342 && (t336 == t343 && (t337 == t344 && (t338 == t345))))) = true := by simpa using c48))
          (try (have c48b2 : (t334 == t341 && (t335 == t342 && (t336 == t343 && (t337 == t344 && (t338 == t345))))) = true := by simpa using c48))
          clear c48
          by_cases c49 : (t339 == t346) = true
          ·rw [if_pos c49] at H
           have c49b0 : (t339 == t346) = true := c49
           (try (have c49b1 : decide (t339 = t346) = true := by simpa using c49))
           (try (have c49b2 : (t339 == t346) = true := by simpa using c49))
           clear c49
           replace H := Option.bind_eq_some_iff.mp H
           obtain ⟨t350, A500, H⟩ := H
           replace H : (some t350) = some r := H
           have A50 := Aside0.mk A500
           clear A500
           obtain rfl := Option.some.inj H
           have hcz51_0 : wc.cell? ⟨gb314, 0, none⟩ = some (.int .i64 a1_0) := (blk_cell BK314.out 0).trans rfl
           have hcz51_1 : wc.cell? ⟨gb314, 1, none⟩ = some (.int .i64 a1_1) := (blk_cell BK314.out 1).trans rfl
           have hcz51_2 : wc.cell? ⟨gb314, 2, none⟩ = some (.int .i64 a1_2) := (blk_cell BK314.out 2).trans rfl
           have hcz51_3 : wc.cell? ⟨gb314, 3, none⟩ = some (.int .i64 a1_3) := (blk_cell BK314.out 3).trans rfl
           have hcz51_4 : wc.cell? ⟨gb314, 4, none⟩ = some (.int .i64 a1_4) := (blk_cell BK314.out 4).trans rfl
           have hfz51_0 := blk_frozen BK314.out 0
           have hfz51_1 := blk_frozen BK314.out 1
           have hfz51_2 := blk_frozen BK314.out 2
           have hfz51_3 := blk_frozen BK314.out 3
           have hfz51_4 := blk_frozen BK314.out 4
           try go_wp2_with (first | ((with_reducible refine gate_callee (f := 9) rfl ?_); refine goesL_ (some 64) rfl rfl Tryz.func9 (by kernel_rfl) rfl #[.agg #[.int .i64 a1_0, .int .i64 a1_1, .int .i64 a1_2, .int .i64 a1_3, .int .i64 a1_4]] rfl (by (try simp only [List.map_toArray, List.map_cons, List.map_nil]); first | done | rfl | (simp only [List.length_drop, List.length_take]; rfl)) ?_; (with_reducible refine (oculusref36_Right.calls a1_0 a1_1 a1_2 a1_3 a1_4 true _ A37.out).mono ?_); rintro e w52 ⟨rfl, hb⟩; refine ⟨_, rfl, ?_⟩; have n0_ := Aside0.mk (blk_below (g := gb314) (o := .cells #[.int .i64 a1_0, .int .i64 a1_1, .int .i64 a1_2, .int .i64 a1_3, .int .i64 a1_4] 23 (0, 0)) (by (with_reducible repeat (first | refine blk_drewN ?_ _ | refine blk_drew ?_ | refine blk_alloc ?_ _)); exact BK314.out) hb); have n1_ := Aside0.mk (below_step (by repeat (first | (with_reducible first | exact HB.out | apply below_alloc | apply pw_below_drewN | apply below_drew1 | refine below_set ?_ GE314.out) | exact HB.out)) hb); clear BK314; clear HB; have BK314 := n0_; have HB := n1_; clear n0_ n1_; (try clear hb); (try clear hb2); (try clear hk); (try clear hi); have hcz53_0 : w52.cell? ⟨gb314, 0, none⟩ = some (.int .i64 a1_0) := (blk_cell BK314.out 0).trans rfl; have hcz53_1 : w52.cell? ⟨gb314, 1, none⟩ = some (.int .i64 a1_1) := (blk_cell BK314.out 1).trans rfl; have hcz53_2 : w52.cell? ⟨gb314, 2, none⟩ = some (.int .i64 a1_2) := (blk_cell BK314.out 2).trans rfl; have hcz53_3 : w52.cell? ⟨gb314, 3, none⟩ = some (.int .i64 a1_3) := (blk_cell BK314.out 3).trans rfl; have hcz53_4 : w52.cell? ⟨gb314, 4, none⟩ = some (.int .i64 a1_4) := (blk_cell BK314.out 4).trans rfl; have hfz53_0 := blk_frozen BK314.out 0; have hfz53_1 := blk_frozen BK314.out 1; have hfz53_2 := blk_frozen BK314.out 2; have hfz53_3 := blk_frozen BK314.out 3; have hfz53_4 := blk_frozen BK314.out 4) | ((with_reducible refine gate_callee (f := 11) rfl ?_); refine goesL_ (some 69) rfl rfl Tryz.func11 (by kernel_rfl) rfl #[.agg #[.int .i64 a1_0, .int .i64 a1_1, .int .i64 a1_2, .int .i64 a1_3, .int .i64 a1_4]] rfl (by (try simp only [List.map_toArray, List.map_cons, List.map_nil]); first | done | rfl | (simp only [List.length_drop, List.length_take]; rfl)) ?_; (with_reducible refine (reply_Cost.calls a1_0 a1_1 a1_2 a1_3 a1_4 t326 _ ?side1 A39.out).mono ?_); (case side1 => exact GInv2.below HG.out (by repeat (first | (with_reducible first | exact HB.out | apply below_alloc | apply pw_below_drewN | apply below_drew1 | refine below_set ?_ GE314.out) | exact HB.out))); rintro e w54 ⟨rfl, hb⟩; refine ⟨_, rfl, ?_⟩; have n0_ := Aside0.mk (blk_below (g := gb314) (o := .cells #[.int .i64 a1_0, .int .i64 a1_1, .int .i64 a1_2, .int .i64 a1_3, .int .i64 a1_4] 23 (0, 0)) (by (with_reducible repeat (first | refine blk_drewN ?_ _ | refine blk_drew ?_ | refine blk_alloc ?_ _)); exact BK314.out) hb); have n1_ := Aside0.mk (below_step (by repeat (first | (with_reducible first | exact HB.out | apply below_alloc | apply pw_below_drewN | apply below_drew1 | refine below_set ?_ GE314.out) | exact HB.out)) hb); clear BK314; clear HB; have BK314 := n0_; have HB := n1_; clear n0_ n1_; (try clear hb); (try clear hb2); (try clear hk); (try clear hi)) | ((with_reducible refine gate_callee (f := 10) rfl ?_); refine goesL_ (some 70) rfl rfl Tryz.func10 (by kernel_rfl) rfl #[.string t326] rfl (by (try simp only [List.map_toArray, List.map_cons, List.map_nil]); first | done | rfl | (simp only [List.length_drop, List.length_take]; rfl)) ?_; (with_reducible refine (reply_ReadCost.calls t326 t327 t328 t329 t330 t331 true _ ?side1 A40.out).mono ?_); (case side1 => exact GInv2.below HG.out (by repeat (first | (with_reducible first | exact HB.out | apply below_alloc | apply pw_below_drewN | apply below_drew1 | refine below_set ?_ GE314.out) | exact HB.out))); rintro e w55 ⟨rfl, hb⟩; refine ⟨_, rfl, ?_⟩; have n0_ := Aside0.mk (blk_below (g := gb314) (o := .cells #[.int .i64 a1_0, .int .i64 a1_1, .int .i64 a1_2, .int .i64 a1_3, .int .i64 a1_4] 23 (0, 0)) (by (with_reducible repeat (first | refine blk_drewN ?_ _ | refine blk_drew ?_ | refine blk_alloc ?_ _)); exact BK314.out) hb); have n1_ := Aside0.mk (below_step (by repeat (first | (with_reducible first | exact HB.out | apply below_alloc | apply pw_below_drewN | apply below_drew1 | refine below_set ?_ GE314.out) | exact HB.out)) hb); clear BK314; clear HB; have BK314 := n0_; have HB := n1_; clear n0_ n1_; (try clear hb); (try clear hb2); (try clear hk); (try clear hi)) | ((with_reducible refine gate_dst (N := 12) rfl ?_); refine box_event ?hg (N := 12) ?hd (cs := #[.int .i64 0, .int .i64 0, .int .i64 0, .int .i64 0, .int .i64 0]) (t := 23) ?hr ?_; (case hd => rfl); (case hg => rfl); (case hr => first | (go_simp; done) | (go_simp; rfl)); intro gb333 hg w56 hbox hb; have n0_ := Aside0.mk (blk_below (g := gb314) (o := .cells #[.int .i64 a1_0, .int .i64 a1_1, .int .i64 a1_2, .int .i64 a1_3, .int .i64 a1_4] 23 (0, 0)) (by (with_reducible repeat (first | refine blk_drewN ?_ _ | refine blk_drew ?_ | refine blk_alloc ?_ _)); exact BK314.out) hb); have n1_ := Aside0.mk (below_step (by repeat (first | (with_reducible first | exact HB.out | apply below_alloc | apply pw_below_drewN | apply below_drew1 | refine below_set ?_ GE314.out) | exact HB.out)) hb); have n2_ := Aside0.mk (hbox); have n3_ := Aside0.mk ((by rw [hg]; exact (below_size (by repeat (first | (with_reducible first | exact HB.out | apply below_alloc | apply pw_below_drewN | apply below_drew1 | refine below_set ?_ GE314.out) | exact HB.out))) : w.heap.size ≤ gb333)); have n4_ := Aside0.mk ((by rw [hg]; exact (below_size (by repeat (first | (with_reducible first | exact HB.out | apply below_alloc | apply pw_below_drewN | apply below_drew1 | refine below_set ?_ GE314.out) | exact HB.out))) : w.heap.size ≤ gb333)); have n5_ := Aside0.mk ((by rw [hg]; exact Nat.ne_of_lt (blk_lt (g := gb314) (o := .cells #[.int .i64 a1_0, .int .i64 a1_1, .int .i64 a1_2, .int .i64 a1_3, .int .i64 a1_4] 23 (0, 0)) (by (with_reducible repeat (first | refine blk_drewN ?_ _ | refine blk_drew ?_ | refine blk_alloc ?_ _)); exact BK314.out)) : gb314 ≠ gb333)); have n6_ := Aside0.mk ((by rw [hg]; exact Nat.ne_of_gt (blk_lt (g := gb314) (o := .cells #[.int .i64 a1_0, .int .i64 a1_1, .int .i64 a1_2, .int .i64 a1_3, .int .i64 a1_4] 23 (0, 0)) (by (with_reducible repeat (first | refine blk_drewN ?_ _ | refine blk_drew ?_ | refine blk_alloc ?_ _)); exact BK314.out)) : gb333 ≠ gb314)); clear BK314; clear HB; have BK314 := n0_; have HB := n1_; have BK333 := n2_; have GW333 := n3_; have GE333 := n4_; have NB314_333 := n5_; have NB333_314 := n6_; clear n0_ n1_ n2_ n3_ n4_ n5_ n6_; clear hb hbox hg; have hnb57 := NB333_314.out; have hnc57 := NB314_333.out; have hcz58_0 : w56.cell? ⟨gb333, 0, none⟩ = some (.int .i64 0) := (blk_cell BK333.out 0).trans rfl; have hcz58_1 : w56.cell? ⟨gb333, 1, none⟩ = some (.int .i64 0) := (blk_cell BK333.out 1).trans rfl; have hcz58_2 : w56.cell? ⟨gb333, 2, none⟩ = some (.int .i64 0) := (blk_cell BK333.out 2).trans rfl; have hcz58_3 : w56.cell? ⟨gb333, 3, none⟩ = some (.int .i64 0) := (blk_cell BK333.out 3).trans rfl; have hcz58_4 : w56.cell? ⟨gb333, 4, none⟩ = some (.int .i64 0) := (blk_cell BK333.out 4).trans rfl; have hfz58_0 := blk_frozen BK333.out 0; have hfz58_1 := blk_frozen BK333.out 1; have hfz58_2 := blk_frozen BK333.out 2; have hfz58_3 := blk_frozen BK333.out 3; have hfz58_4 := blk_frozen BK333.out 4) | ((with_reducible refine gate_callee (f := 10) rfl ?_); refine goesL_ (some 75) rfl rfl Tryz.func10 (by kernel_rfl) rfl #[.string a2] rfl (by (try simp only [List.map_toArray, List.map_cons, List.map_nil]); first | done | rfl | (simp only [List.length_drop, List.length_take]; rfl)) ?_; (with_reducible refine (reply_ReadCost.calls a2 t334 t335 t336 t337 t338 t339 _ ?side1 A41.out).mono ?_); (case side1 => exact GInv2.below HG.out (by repeat (first | (with_reducible first | exact HB.out | apply below_alloc | apply pw_below_drewN | apply below_drew1 | refine below_set ?_ GE314.out | refine below_set ?_ GE333.out) | exact HB.out))); rintro e w59 ⟨rfl, hb⟩; refine ⟨_, rfl, ?_⟩; have n0_ := Aside0.mk (blk_below (g := gb314) (o := .cells #[.int .i64 a1_0, .int .i64 a1_1, .int .i64 a1_2, .int .i64 a1_3, .int .i64 a1_4] 23 (0, 0)) (by (with_reducible repeat (first | refine blk_drewN ?_ _ | refine blk_drew ?_ | refine blk_alloc ?_ _)); refine blk_far ?_ NB314_333.out _; (with_reducible repeat (first | refine blk_drewN ?_ _ | refine blk_drew ?_ | refine blk_alloc ?_ _)); refine blk_far ?_ NB314_333.out _; (with_reducible repeat (first | refine blk_drewN ?_ _ | refine blk_drew ?_ | refine blk_alloc ?_ _)); refine blk_far ?_ NB314_333.out _; (with_reducible repeat (first | refine blk_drewN ?_ _ | refine blk_drew ?_ | refine blk_alloc ?_ _)); refine blk_far ?_ NB314_333.out _; (with_reducible repeat (first | refine blk_drewN ?_ _ | refine blk_drew ?_ | refine blk_alloc ?_ _)); refine blk_far ?_ NB314_333.out _; (with_reducible repeat (first | refine blk_drewN ?_ _ | refine blk_drew ?_ | refine blk_alloc ?_ _)); exact BK314.out) hb); have n1_ := Aside0.mk (blk_below (g := gb333) (o := .cells #[.int .i64 t327, .int .i64 t328, .int .i64 t329, .int .i64 t330, .int .i64 t331] 23 (0, 0)) (by (with_reducible repeat (first | refine blk_drewN ?_ _ | refine blk_drew ?_ | refine blk_alloc ?_ _)); refine blk_put (cs := #[.int .i64 t327, .int .i64 t328, .int .i64 t329, .int .i64 t330, .int .i64 0]) ?_ 4 _ rfl; (with_reducible repeat (first | refine blk_drewN ?_ _ | refine blk_drew ?_ | refine blk_alloc ?_ _)); refine blk_put (cs := #[.int .i64 t327, .int .i64 t328, .int .i64 t329, .int .i64 0, .int .i64 0]) ?_ 3 _ rfl; (with_reducible repeat (first | refine blk_drewN ?_ _ | refine blk_drew ?_ | refine blk_alloc ?_ _)); refine blk_put (cs := #[.int .i64 t327, .int .i64 t328, .int .i64 0, .int .i64 0, .int .i64 0]) ?_ 2 _ rfl; (with_reducible repeat (first | refine blk_drewN ?_ _ | refine blk_drew ?_ | refine blk_alloc ?_ _)); refine blk_put (cs := #[.int .i64 t327, .int .i64 0, .int .i64 0, .int .i64 0, .int .i64 0]) ?_ 1 _ rfl; (with_reducible repeat (first | refine blk_drewN ?_ _ | refine blk_drew ?_ | refine blk_alloc ?_ _)); refine blk_put (cs := #[.int .i64 0, .int .i64 0, .int .i64 0, .int .i64 0, .int .i64 0]) ?_ 0 _ rfl; (with_reducible repeat (first | refine blk_drewN ?_ _ | refine blk_drew ?_ | refine blk_alloc ?_ _)); exact BK333.out) hb); have n2_ := Aside0.mk (below_step (by repeat (first | (with_reducible first | exact HB.out | apply below_alloc | apply pw_below_drewN | apply below_drew1 | refine below_set ?_ GE314.out | refine below_set ?_ GE333.out) | exact HB.out)) hb); clear BK314; clear BK333; clear HB; have BK314 := n0_; have BK333 := n1_; have HB := n2_; clear n0_ n1_ n2_; (try clear hb); (try clear hb2); (try clear hk); (try clear hi)) | ((with_reducible refine gate_dst (N := 14) rfl ?_); refine box_event ?hg (N := 14) ?hd (cs := #[.int .i64 0, .int .i64 0, .int .i64 0, .int .i64 0, .int .i64 0]) (t := 23) ?hr ?_; (case hd => rfl); (case hg => rfl); (case hr => first | (go_simp; done) | (go_simp; rfl)); intro gb340 hg w60 hbox hb; have n0_ := Aside0.mk (blk_below (g := gb314) (o := .cells #[.int .i64 a1_0, .int .i64 a1_1, .int .i64 a1_2, .int .i64 a1_3, .int .i64 a1_4] 23 (0, 0)) (by (with_reducible repeat (first | refine blk_drewN ?_ _ | refine blk_drew ?_ | refine blk_alloc ?_ _)); exact BK314.out) hb); have n1_ := Aside0.mk (blk_below (g := gb333) (o := .cells #[.int .i64 t327, .int .i64 t328, .int .i64 t329, .int .i64 t330, .int .i64 t331] 23 (0, 0)) (by (with_reducible repeat (first | refine blk_drewN ?_ _ | refine blk_drew ?_ | refine blk_alloc ?_ _)); exact BK333.out) hb); have n2_ := Aside0.mk (below_step (by repeat (first | (with_reducible first | exact HB.out | apply below_alloc | apply pw_below_drewN | apply below_drew1 | refine below_set ?_ GE314.out | refine below_set ?_ GE333.out) | exact HB.out)) hb); have n3_ := Aside0.mk (hbox); have n4_ := Aside0.mk ((by rw [hg]; exact (below_size (by repeat (first | (with_reducible first | exact HB.out | apply below_alloc | apply pw_below_drewN | apply below_drew1 | refine below_set ?_ GE314.out | refine below_set ?_ GE333.out) | exact HB.out))) : w.heap.size ≤ gb340)); have n5_ := Aside0.mk ((by rw [hg]; exact (below_size (by repeat (first | (with_reducible first | exact HB.out | apply below_alloc | apply pw_below_drewN | apply below_drew1 | refine below_set ?_ GE314.out | refine below_set ?_ GE333.out) | exact HB.out))) : w.heap.size ≤ gb340)); have n6_ := Aside0.mk ((by rw [hg]; exact Nat.ne_of_lt (blk_lt (g := gb314) (o := .cells #[.int .i64 a1_0, .int .i64 a1_1, .int .i64 a1_2, .int .i64 a1_3, .int .i64 a1_4] 23 (0, 0)) (by (with_reducible repeat (first | refine blk_drewN ?_ _ | refine blk_drew ?_ | refine blk_alloc ?_ _)); exact BK314.out)) : gb314 ≠ gb340)); have n7_ := Aside0.mk ((by rw [hg]; exact Nat.ne_of_gt (blk_lt (g := gb314) (o := .cells #[.int .i64 a1_0, .int .i64 a1_1, .int .i64 a1_2, .int .i64 a1_3, .int .i64 a1_4] 23 (0, 0)) (by (with_reducible repeat (first | refine blk_drewN ?_ _ | refine blk_drew ?_ | refine blk_alloc ?_ _)); exact BK314.out)) : gb340 ≠ gb314)); have n8_ := Aside0.mk ((by rw [hg]; exact Nat.ne_of_lt (blk_lt (g := gb333) (o := .cells #[.int .i64 t327, .int .i64 t328, .int .i64 t329, .int .i64 t330, .int .i64 t331] 23 (0, 0)) (by (with_reducible repeat (first | refine blk_drewN ?_ _ | refine blk_drew ?_ | refine blk_alloc ?_ _)); exact BK333.out)) : gb333 ≠ gb340)); have n9_ := Aside0.mk ((by rw [hg]; exact Nat.ne_of_gt (blk_lt (g := gb333) (o := .cells #[.int .i64 t327, .int .i64 t328, .int .i64 t329, .int .i64 t330, .int .i64 t331] 23 (0, 0)) (by (with_reducible repeat (first | refine blk_drewN ?_ _ | refine blk_drew ?_ | refine blk_alloc ?_ _)); exact BK333.out)) : gb340 ≠ gb333)); clear BK314; clear BK333; clear HB; have BK314 := n0_; have BK333 := n1_; have HB := n2_; have BK340 := n3_; have GW340 := n4_; have GE340 := n5_; have NB314_340 := n6_; have NB340_314 := n7_; have NB333_340 := n8_; have NB340_333 := n9_; clear n0_ n1_ n2_ n3_ n4_ n5_ n6_ n7_ n8_ n9_; clear hb hbox hg; have hnb61 := NB340_314.out; have hnc61 := NB314_340.out; have hnb62 := NB340_333.out; have hnc62 := NB333_340.out; have hcz63_0 : w60.cell? ⟨gb340, 0, none⟩ = some (.int .i64 0) := (blk_cell BK340.out 0).trans rfl; have hcz63_1 : w60.cell? ⟨gb340, 1, none⟩ = some (.int .i64 0) := (blk_cell BK340.out 1).trans rfl; have hcz63_2 : w60.cell? ⟨gb340, 2, none⟩ = some (.int .i64 0) := (blk_cell BK340.out 2).trans rfl; have hcz63_3 : w60.cell? ⟨gb340, 3, none⟩ = some (.int .i64 0) := (blk_cell BK340.out 3).trans rfl; have hcz63_4 : w60.cell? ⟨gb340, 4, none⟩ = some (.int .i64 0) := (blk_cell BK340.out 4).trans rfl; have hfz63_0 := blk_frozen BK340.out 0; have hfz63_1 := blk_frozen BK340.out 1; have hfz63_2 := blk_frozen BK340.out 2; have hfz63_3 := blk_frozen BK340.out 3; have hfz63_4 := blk_frozen BK340.out 4) | ((with_reducible refine gate_callee (f := 12) rfl ?_); refine goesL_ (some 79) rfl rfl Tryz.func12 (by kernel_rfl) rfl #[.string a2] rfl (by (try simp only [List.map_toArray, List.map_cons, List.map_nil]); first | done | rfl | (simp only [List.length_drop, List.length_take]; rfl)) ?_; (with_reducible refine (oculusref45_ReadCost.calls kj10 a2 t341 t342 t343 t344 t345 t346 _ A42.out).mono ?_); rintro e w64 ⟨rfl, hb⟩; refine ⟨_, rfl, ?_⟩; have n0_ := Aside0.mk (blk_below (g := gb314) (o := .cells #[.int .i64 a1_0, .int .i64 a1_1, .int .i64 a1_2, .int .i64 a1_3, .int .i64 a1_4] 23 (0, 0)) (by (with_reducible repeat (first | refine blk_drewN ?_ _ | refine blk_drew ?_ | refine blk_alloc ?_ _)); refine blk_far ?_ NB314_340.out _; (with_reducible repeat (first | refine blk_drewN ?_ _ | refine blk_drew ?_ | refine blk_alloc ?_ _)); refine blk_far ?_ NB314_340.out _; (with_reducible repeat (first | refine blk_drewN ?_ _ | refine blk_drew ?_ | refine blk_alloc ?_ _)); refine blk_far ?_ NB314_340.out _; (with_reducible repeat (first | refine blk_drewN ?_ _ | refine blk_drew ?_ | refine blk_alloc ?_ _)); refine blk_far ?_ NB314_340.out _; (with_reducible repeat (first | refine blk_drewN ?_ _ | refine blk_drew ?_ | refine blk_alloc ?_ _)); refine blk_far ?_ NB314_340.out _; (with_reducible repeat (first | refine blk_drewN ?_ _ | refine blk_drew ?_ | refine blk_alloc ?_ _)); exact BK314.out) hb); have n1_ := Aside0.mk (blk_below (g := gb333) (o := .cells #[.int .i64 t327, .int .i64 t328, .int .i64 t329, .int .i64 t330, .int .i64 t331] 23 (0, 0)) (by (with_reducible repeat (first | refine blk_drewN ?_ _ | refine blk_drew ?_ | refine blk_alloc ?_ _)); refine blk_far ?_ NB333_340.out _; (with_reducible repeat (first | refine blk_drewN ?_ _ | refine blk_drew ?_ | refine blk_alloc ?_ _)); refine blk_far ?_ NB333_340.out _; (with_reducible repeat (first | refine blk_drewN ?_ _ | refine blk_drew ?_ | refine blk_alloc ?_ _)); refine blk_far ?_ NB333_340.out _; (with_reducible repeat (first | refine blk_drewN ?_ _ | refine blk_drew ?_ | refine blk_alloc ?_ _)); refine blk_far ?_ NB333_340.out _; (with_reducible repeat (first | refine blk_drewN ?_ _ | refine blk_drew ?_ | refine blk_alloc ?_ _)); refine blk_far ?_ NB333_340.out _; (with_reducible repeat (first | refine blk_drewN ?_ _ | refine blk_drew ?_ | refine blk_alloc ?_ _)); exact BK333.out) hb); have n2_ := Aside0.mk (blk_below (g := gb340) (o := .cells #[.int .i64 t334, .int .i64 t335, .int .i64 t336, .int .i64 t337, .int .i64 t338] 23 (0, 0)) (by (with_reducible repeat (first | refine blk_drewN ?_ _ | refine blk_drew ?_ | refine blk_alloc ?_ _)); refine blk_put (cs := #[.int .i64 t334, .int .i64 t335, .int .i64 t336, .int .i64 t337, .int .i64 0]) ?_ 4 _ rfl; (with_reducible repeat (first | refine blk_drewN ?_ _ | refine blk_drew ?_ | refine blk_alloc ?_ _)); refine blk_put (cs := #[.int .i64 t334, .int .i64 t335, .int .i64 t336, .int .i64 0, .int .i64 0]) ?_ 3 _ rfl; (with_reducible repeat (first | refine blk_drewN ?_ _ | refine blk_drew ?_ | refine blk_alloc ?_ _)); refine blk_put (cs := #[.int .i64 t334, .int .i64 t335, .int .i64 0, .int .i64 0, .int .i64 0]) ?_ 2 _ rfl; (with_reducible repeat (first | refine blk_drewN ?_ _ | refine blk_drew ?_ | refine blk_alloc ?_ _)); refine blk_put (cs := #[.int .i64 t334, .int .i64 0, .int .i64 0, .int .i64 0, .int .i64 0]) ?_ 1 _ rfl; (with_reducible repeat (first | refine blk_drewN ?_ _ | refine blk_drew ?_ | refine blk_alloc ?_ _)); refine blk_put (cs := #[.int .i64 0, .int .i64 0, .int .i64 0, .int .i64 0, .int .i64 0]) ?_ 0 _ rfl; (with_reducible repeat (first | refine blk_drewN ?_ _ | refine blk_drew ?_ | refine blk_alloc ?_ _)); exact BK340.out) hb); have n3_ := Aside0.mk (below_step (by repeat (first | (with_reducible first | exact HB.out | apply below_alloc | apply pw_below_drewN | apply below_drew1 | refine below_set ?_ GE314.out | refine below_set ?_ GE333.out | refine below_set ?_ GE340.out) | exact HB.out)) hb); clear BK314; clear BK333; clear BK340; clear HB; have BK314 := n0_; have BK333 := n1_; have BK340 := n2_; have HB := n3_; clear n0_ n1_ n2_ n3_; (try clear hb); (try clear hb2); (try clear hk); (try clear hi)) | ((with_reducible refine gate_dst (N := 16) rfl ?_); refine box_event ?hg (N := 16) ?hd (cs := #[.int .i64 0, .int .i64 0, .int .i64 0, .int .i64 0, .int .i64 0, .bool false]) (t := 36) ?hr ?_; (case hd => rfl); (case hg => rfl); (case hr => first | (go_simp; done) | (go_simp; rfl)); intro gb347 hg w65 hbox hb; have n0_ := Aside0.mk (blk_below (g := gb314) (o := .cells #[.int .i64 a1_0, .int .i64 a1_1, .int .i64 a1_2, .int .i64 a1_3, .int .i64 a1_4] 23 (0, 0)) (by (with_reducible repeat (first | refine blk_drewN ?_ _ | refine blk_drew ?_ | refine blk_alloc ?_ _)); exact BK314.out) hb); have n1_ := Aside0.mk (blk_below (g := gb333) (o := .cells #[.int .i64 t327, .int .i64 t328, .int .i64 t329, .int .i64 t330, .int .i64 t331] 23 (0, 0)) (by (with_reducible repeat (first | refine blk_drewN ?_ _ | refine blk_drew ?_ | refine blk_alloc ?_ _)); exact BK333.out) hb); have n2_ := Aside0.mk (blk_below (g := gb340) (o := .cells #[.int .i64 t334, .int .i64 t335, .int .i64 t336, .int .i64 t337, .int .i64 t338] 23 (0, 0)) (by (with_reducible repeat (first | refine blk_drewN ?_ _ | refine blk_drew ?_ | refine blk_alloc ?_ _)); exact BK340.out) hb); have n3_ := Aside0.mk (below_step (by repeat (first | (with_reducible first | exact HB.out | apply below_alloc | apply pw_below_drewN | apply below_drew1 | refine below_set ?_ GE314.out | refine below_set ?_ GE333.out | refine below_set ?_ GE340.out) | exact HB.out)) hb); have n4_ := Aside0.mk (hbox); have n5_ := Aside0.mk ((by rw [hg]; exact (below_size (by repeat (first | (with_reducible first | exact HB.out | apply below_alloc | apply pw_below_drewN | apply below_drew1 | refine below_set ?_ GE314.out | refine below_set ?_ GE333.out | refine below_set ?_ GE340.out) | exact HB.out))) : w.heap.size ≤ gb347)); have n6_ := Aside0.mk ((by rw [hg]; exact (below_size (by repeat (first | (with_reducible first | exact HB.out | apply below_alloc | apply pw_below_drewN | apply below_drew1 | refine below_set ?_ GE314.out | refine below_set ?_ GE333.out | refine below_set ?_ GE340.out) | exact HB.out))) : w.heap.size ≤ gb347)); have n7_ := Aside0.mk ((by rw [hg]; exact Nat.ne_of_lt (blk_lt (g := gb314) (o := .cells #[.int .i64 a1_0, .int .i64 a1_1, .int .i64 a1_2, .int .i64 a1_3, .int .i64 a1_4] 23 (0, 0)) (by (with_reducible repeat (first | refine blk_drewN ?_ _ | refine blk_drew ?_ | refine blk_alloc ?_ _)); exact BK314.out)) : gb314 ≠ gb347)); have n8_ := Aside0.mk ((by rw [hg]; exact Nat.ne_of_gt (blk_lt (g := gb314) (o := .cells #[.int .i64 a1_0, .int .i64 a1_1, .int .i64 a1_2, .int .i64 a1_3, .int .i64 a1_4] 23 (0, 0)) (by (with_reducible repeat (first | refine blk_drewN ?_ _ | refine blk_drew ?_ | refine blk_alloc ?_ _)); exact BK314.out)) : gb347 ≠ gb314)); have n9_ := Aside0.mk ((by rw [hg]; exact Nat.ne_of_lt (blk_lt (g := gb333) (o := .cells #[.int .i64 t327, .int .i64 t328, .int .i64 t329, .int .i64 t330, .int .i64 t331] 23 (0, 0)) (by (with_reducible repeat (first | refine blk_drewN ?_ _ | refine blk_drew ?_ | refine blk_alloc ?_ _)); exact BK333.out)) : gb333 ≠ gb347)); have n10_ := Aside0.mk ((by rw [hg]; exact Nat.ne_of_gt (blk_lt (g := gb333) (o := .cells #[.int .i64 t327, .int .i64 t328, .int .i64 t329, .int .i64 t330, .int .i64 t331] 23 (0, 0)) (by (with_reducible repeat (first | refine blk_drewN ?_ _ | refine blk_drew ?_ | refine blk_alloc ?_ _)); exact BK333.out)) : gb347 ≠ gb333)); have n11_ := Aside0.mk ((by rw [hg]; exact Nat.ne_of_lt (blk_lt (g := gb340) (o := .cells #[.int .i64 t334, .int .i64 t335, .int .i64 t336, .int .i64 t337, .int .i64 t338] 23 (0, 0)) (by (with_reducible repeat (first | refine blk_drewN ?_ _ | refine blk_drew ?_ | refine blk_alloc ?_ _)); exact BK340.out)) : gb340 ≠ gb347)); have n12_ := Aside0.mk ((by rw [hg]; exact Nat.ne_of_gt (blk_lt (g := gb340) (o := .cells #[.int .i64 t334, .int .i64 t335, .int .i64 t336, .int .i64 t337, .int .i64 t338] 23 (0, 0)) (by (with_reducible repeat (first | refine blk_drewN ?_ _ | refine blk_drew ?_ | refine blk_alloc ?_ _)); exact BK340.out)) : gb347 ≠ gb340)); clear BK314; clear BK333; clear BK340; clear HB; have BK314 := n0_; have BK333 := n1_; have BK340 := n2_; have HB := n3_; have BK347 := n4_; have GW347 := n5_; have GE347 := n6_; have NB314_347 := n7_; have NB347_314 := n8_; have NB333_347 := n9_; have NB347_333 := n10_; have NB340_347 := n11_; have NB347_340 := n12_; clear n0_ n1_ n2_ n3_ n4_ n5_ n6_ n7_ n8_ n9_ n10_ n11_ n12_; clear hb hbox hg; have hnb66 := NB347_314.out; have hnc66 := NB314_347.out; have hnb67 := NB347_333.out; have hnc67 := NB333_347.out; have hnb68 := NB347_340.out; have hnc68 := NB340_347.out; have hcz69_0 : w65.cell? ⟨gb347, 0, none⟩ = some (.int .i64 0) := (blk_cell BK347.out 0).trans rfl; have hcz69_1 : w65.cell? ⟨gb347, 1, none⟩ = some (.int .i64 0) := (blk_cell BK347.out 1).trans rfl; have hcz69_2 : w65.cell? ⟨gb347, 2, none⟩ = some (.int .i64 0) := (blk_cell BK347.out 2).trans rfl; have hcz69_3 : w65.cell? ⟨gb347, 3, none⟩ = some (.int .i64 0) := (blk_cell BK347.out 3).trans rfl; have hcz69_4 : w65.cell? ⟨gb347, 4, none⟩ = some (.int .i64 0) := (blk_cell BK347.out 4).trans rfl; have hcz69_5 : w65.cell? ⟨gb347, 5, none⟩ = some (.bool false) := (blk_cell BK347.out 5).trans rfl; have hfz69_0 := blk_frozen BK347.out 0; have hfz69_1 := blk_frozen BK347.out 1; have hfz69_2 := blk_frozen BK347.out 2; have hfz69_3 := blk_frozen BK347.out 3; have hfz69_4 := blk_frozen BK347.out 4; have hfz69_5 := blk_frozen BK347.out 5))
           have n0_ : Aside0 (((((((w65.setCell ⟨gb347, 0, none⟩ (.int .i64 t341)).setCell ⟨gb347, 1, none⟩ (.int .i64 t342)).setCell ⟨gb347, 2, none⟩ (.int .i64 t343)).setCell ⟨gb347, 3, none⟩ (.int .i64 t344)).setCell ⟨gb347, 4, none⟩ (.int .i64 t345)).setCell ⟨gb347, 5, none⟩ (.bool t346)).heap[gb314]? = some (.cells #[.int .i64 a1_0, .int .i64 a1_1, .int .i64 a1_2, .int .i64 a1_3, .int .i64 a1_4] 23 (0, 0))) := ⟨by (with_reducible repeat (first | refine blk_drewN ?_ _ | refine blk_drew ?_ | refine blk_alloc ?_ _)); refine blk_far ?_ NB314_347.out _; (with_reducible repeat (first | refine blk_drewN ?_ _ | refine blk_drew ?_ | refine blk_alloc ?_ _)); refine blk_far ?_ NB314_347.out _; (with_reducible repeat (first | refine blk_drewN ?_ _ | refine blk_drew ?_ | refine blk_alloc ?_ _)); refine blk_far ?_ NB314_347.out _; (with_reducible repeat (first | refine blk_drewN ?_ _ | refine blk_drew ?_ | refine blk_alloc ?_ _)); refine blk_far ?_ NB314_347.out _; (with_reducible repeat (first | refine blk_drewN ?_ _ | refine blk_drew ?_ | refine blk_alloc ?_ _)); refine blk_far ?_ NB314_347.out _; (with_reducible repeat (first | refine blk_drewN ?_ _ | refine blk_drew ?_ | refine blk_alloc ?_ _)); refine blk_far ?_ NB314_347.out _; (with_reducible repeat (first | refine blk_drewN ?_ _ | refine blk_drew ?_ | refine blk_alloc ?_ _)); exact BK314.out⟩
           have n1_ : Aside0 (((((((w65.setCell ⟨gb347, 0, none⟩ (.int .i64 t341)).setCell ⟨gb347, 1, none⟩ (.int .i64 t342)).setCell ⟨gb347, 2, none⟩ (.int .i64 t343)).setCell ⟨gb347, 3, none⟩ (.int .i64 t344)).setCell ⟨gb347, 4, none⟩ (.int .i64 t345)).setCell ⟨gb347, 5, none⟩ (.bool t346)).heap[gb333]? = some (.cells #[.int .i64 t327, .int .i64 t328, .int .i64 t329, .int .i64 t330, .int .i64 t331] 23 (0, 0))) := ⟨by (with_reducible repeat (first | refine blk_drewN ?_ _ | refine blk_drew ?_ | refine blk_alloc ?_ _)); refine blk_far ?_ NB333_347.out _; (with_reducible repeat (first | refine blk_drewN ?_ _ | refine blk_drew ?_ | refine blk_alloc ?_ _)); refine blk_far ?_ NB333_347.out _; (with_reducible repeat (first | refine blk_drewN ?_ _ | refine blk_drew ?_ | refine blk_alloc ?_ _)); refine blk_far ?_ NB333_347.out _; (with_reducible repeat (first | refine blk_drewN ?_ _ | refine blk_drew ?_ | refine blk_alloc ?_ _)); refine blk_far ?_ NB333_347.out _; (with_reducible repeat (first | refine blk_drewN ?_ _ | refine blk_drew ?_ | refine blk_alloc ?_ _)); refine blk_far ?_ NB333_347.out _; (with_reducible repeat (first | refine blk_drewN ?_ _ | refine blk_drew ?_ | refine blk_alloc ?_ _)); refine blk_far ?_ NB333_347.out _; (with_reducible repeat (first | refine blk_drewN ?_ _ | refine blk_drew ?_ | refine blk_alloc ?_ _)); exact BK333.out⟩
           have n2_ : Aside0 (((((((w65.setCell ⟨gb347, 0, none⟩ (.int .i64 t341)).setCell ⟨gb347, 1, none⟩ (.int .i64 t342)).setCell ⟨gb347, 2, none⟩ (.int .i64 t343)).setCell ⟨gb347, 3, none⟩ (.int .i64 t344)).setCell ⟨gb347, 4, none⟩ (.int .i64 t345)).setCell ⟨gb347, 5, none⟩ (.bool t346)).heap[gb340]? = some (.cells #[.int .i64 t334, .int .i64 t335, .int .i64 t336, .int .i64 t337, .int .i64 t338] 23 (0, 0))) := ⟨by (with_reducible repeat (first | refine blk_drewN ?_ _ | refine blk_drew ?_ | refine blk_alloc ?_ _)); refine blk_far ?_ NB340_347.out _; (with_reducible repeat (first | refine blk_drewN ?_ _ | refine blk_drew ?_ | refine blk_alloc ?_ _)); refine blk_far ?_ NB340_347.out _; (with_reducible repeat (first | refine blk_drewN ?_ _ | refine blk_drew ?_ | refine blk_alloc ?_ _)); refine blk_far ?_ NB340_347.out _; (with_reducible repeat (first | refine blk_drewN ?_ _ | refine blk_drew ?_ | refine blk_alloc ?_ _)); refine blk_far ?_ NB340_347.out _; (with_reducible repeat (first | refine blk_drewN ?_ _ | refine blk_drew ?_ | refine blk_alloc ?_ _)); refine blk_far ?_ NB340_347.out _; (with_reducible repeat (first | refine blk_drewN ?_ _ | refine blk_drew ?_ | refine blk_alloc ?_ _)); refine blk_far ?_ NB340_347.out _; (with_reducible repeat (first | refine blk_drewN ?_ _ | refine blk_drew ?_ | refine blk_alloc ?_ _)); exact BK340.out⟩
           have n3_ : Aside0 (((((((w65.setCell ⟨gb347, 0, none⟩ (.int .i64 t341)).setCell ⟨gb347, 1, none⟩ (.int .i64 t342)).setCell ⟨gb347, 2, none⟩ (.int .i64 t343)).setCell ⟨gb347, 3, none⟩ (.int .i64 t344)).setCell ⟨gb347, 4, none⟩ (.int .i64 t345)).setCell ⟨gb347, 5, none⟩ (.bool t346)).heap[gb347]? = some (.cells #[.int .i64 t341, .int .i64 t342, .int .i64 t343, .int .i64 t344, .int .i64 t345, .bool t346] 36 (0, 0))) := ⟨by (with_reducible repeat (first | refine blk_drewN ?_ _ | refine blk_drew ?_ | refine blk_alloc ?_ _)); refine blk_put (cs := #[.int .i64 t341, .int .i64 t342, .int .i64 t343, .int .i64 t344, .int .i64 t345, .bool false]) ?_ 5 _ rfl; (with_reducible repeat (first | refine blk_drewN ?_ _ | refine blk_drew ?_ | refine blk_alloc ?_ _)); refine blk_put (cs := #[.int .i64 t341, .int .i64 t342, .int .i64 t343, .int .i64 t344, .int .i64 0, .bool false]) ?_ 4 _ rfl; (with_reducible repeat (first | refine blk_drewN ?_ _ | refine blk_drew ?_ | refine blk_alloc ?_ _)); refine blk_put (cs := #[.int .i64 t341, .int .i64 t342, .int .i64 t343, .int .i64 0, .int .i64 0, .bool false]) ?_ 3 _ rfl; (with_reducible repeat (first | refine blk_drewN ?_ _ | refine blk_drew ?_ | refine blk_alloc ?_ _)); refine blk_put (cs := #[.int .i64 t341, .int .i64 t342, .int .i64 0, .int .i64 0, .int .i64 0, .bool false]) ?_ 2 _ rfl; (with_reducible repeat (first | refine blk_drewN ?_ _ | refine blk_drew ?_ | refine blk_alloc ?_ _)); refine blk_put (cs := #[.int .i64 t341, .int .i64 0, .int .i64 0, .int .i64 0, .int .i64 0, .bool false]) ?_ 1 _ rfl; (with_reducible repeat (first | refine blk_drewN ?_ _ | refine blk_drew ?_ | refine blk_alloc ?_ _)); refine blk_put (cs := #[.int .i64 0, .int .i64 0, .int .i64 0, .int .i64 0, .int .i64 0, .bool false]) ?_ 0 _ rfl; (with_reducible repeat (first | refine blk_drewN ?_ _ | refine blk_drew ?_ | refine blk_alloc ?_ _)); exact BK347.out⟩
           have n4_ : Aside0 (Below w.heap.size w ((((((w65.setCell ⟨gb347, 0, none⟩ (.int .i64 t341)).setCell ⟨gb347, 1, none⟩ (.int .i64 t342)).setCell ⟨gb347, 2, none⟩ (.int .i64 t343)).setCell ⟨gb347, 3, none⟩ (.int .i64 t344)).setCell ⟨gb347, 4, none⟩ (.int .i64 t345)).setCell ⟨gb347, 5, none⟩ (.bool t346))) := ⟨by repeat (first | (with_reducible first | exact HB.out | apply below_alloc | apply pw_below_drewN | apply below_drew1 | refine below_set ?_ GE314.out | refine below_set ?_ GE333.out | refine below_set ?_ GE340.out | refine below_set ?_ GE347.out) | exact HB.out)⟩
           (try clear BK314)
           (try clear BK333)
           (try clear BK340)
           (try clear BK347)
           (try clear HB)
           generalize ((((((w65.setCell ⟨gb347, 0, none⟩ (.int .i64 t341)).setCell ⟨gb347, 1, none⟩ (.int .i64 t342)).setCell ⟨gb347, 2, none⟩ (.int .i64 t343)).setCell ⟨gb347, 3, none⟩ (.int .i64 t344)).setCell ⟨gb347, 4, none⟩ (.int .i64 t345)).setCell ⟨gb347, 5, none⟩ (.bool t346)) = w70 at n0_ n1_ n2_ n3_ n4_ ⊢
           have BK314 := n0_
           have BK333 := n1_
           have BK340 := n2_
           have BK347 := n3_
           have HB := n4_
           clear n0_ n1_ n2_ n3_ n4_
           have n0_ := Aside0.mk (blk_drew BK314.out)
           have n1_ := Aside0.mk (blk_drew BK333.out)
           have n2_ := Aside0.mk (blk_drew BK340.out)
           have n3_ := Aside0.mk (blk_drew BK347.out)
           have n4_ := Aside0.mk (below_drew1 HB.out)
           clear BK314
           clear BK333
           clear BK340
           clear BK347
           clear HB
           have BK314 := n0_
           have BK333 := n1_
           have BK340 := n2_
           have BK347 := n3_
           have HB := n4_
           clear n0_ n1_ n2_ n3_ n4_
           refine start_ (n := 29) (S := fun w' => w'.cell? ⟨gb314, 0, none⟩ = some (.int .i64 a1_0) ∧ w'.cell? ⟨gb314, 1, none⟩ = some (.int .i64 a1_1) ∧ w'.cell? ⟨gb314, 2, none⟩ = some (.int .i64 a1_2) ∧ w'.cell? ⟨gb314, 3, none⟩ = some (.int .i64 a1_3) ∧ w'.cell? ⟨gb314, 4, none⟩ = some (.int .i64 a1_4) ∧ w'.cell? ⟨gb333, 0, none⟩ = some (.int .i64 t327) ∧ w'.cell? ⟨gb333, 1, none⟩ = some (.int .i64 t328) ∧ w'.cell? ⟨gb333, 2, none⟩ = some (.int .i64 t329) ∧ w'.cell? ⟨gb333, 3, none⟩ = some (.int .i64 t330) ∧ w'.cell? ⟨gb333, 4, none⟩ = some (.int .i64 t331) ∧ w'.cell? ⟨gb340, 0, none⟩ = some (.int .i64 t334) ∧ w'.cell? ⟨gb340, 1, none⟩ = some (.int .i64 t335) ∧ w'.cell? ⟨gb340, 2, none⟩ = some (.int .i64 t336) ∧ w'.cell? ⟨gb340, 3, none⟩ = some (.int .i64 t337) ∧ w'.cell? ⟨gb340, 4, none⟩ = some (.int .i64 t338) ∧ w'.cell? ⟨gb347, 0, none⟩ = some (.int .i64 t341) ∧ w'.cell? ⟨gb347, 1, none⟩ = some (.int .i64 t342) ∧ w'.cell? ⟨gb347, 2, none⟩ = some (.int .i64 t343) ∧ w'.cell? ⟨gb347, 3, none⟩ = some (.int .i64 t344) ∧ w'.cell? ⟨gb347, 4, none⟩ = some (.int .i64 t345) ∧ w'.cell? ⟨gb347, 5, none⟩ = some (.bool t346)) (ds := []) #[false, false, false, false, false, false, false, false, false, false, false, false, false, false, false, false, false, false, false, false, false, false, false, false, false, false, false, false, false] (by kernel_rfl) rfl rfl ⟨(blk_cell BK314.out 0).trans rfl, (blk_cell BK314.out 1).trans rfl, (blk_cell BK314.out 2).trans rfl, (blk_cell BK314.out 3).trans rfl, (blk_cell BK314.out 4).trans rfl, (blk_cell BK333.out 0).trans rfl, (blk_cell BK333.out 1).trans rfl, (blk_cell BK333.out 2).trans rfl, (blk_cell BK333.out 3).trans rfl, (blk_cell BK333.out 4).trans rfl, (blk_cell BK340.out 0).trans rfl, (blk_cell BK340.out 1).trans rfl, (blk_cell BK340.out 2).trans rfl, (blk_cell BK340.out 3).trans rfl, (blk_cell BK340.out 4).trans rfl, (blk_cell BK347.out 0).trans rfl, (blk_cell BK347.out 1).trans rfl, (blk_cell BK347.out 2).trans rfl, (blk_cell BK347.out 3).trans rfl, (blk_cell BK347.out 4).trans rfl, (blk_cell BK347.out 5).trans rfl⟩ (fun hHeld => ?_); refine with_tabW oculuslaw45_ReplyBack.tab13 oculuslaw45_ReplyBack.bits13 (fun HT_ HW_ => ?_)
           generalize w70.drew = w71 at BK314 BK333 BK340 BK347 HB hHeld ⊢
           refine take_ (i := 0) (N := some 80) (v := ?_) (a' := ?_) #[true, false, false, false, false, false, false, false, false, false, false, false, false, false, false, false, false, false, false, false, false, false, false, false, false, false, false, false, false] rfl rfl (take_ofW HT_.out HW_.out (by kernel_rfl)) (fun _ _ _ h => h) (Or.inl ⟨by rfl, ?_⟩) hHeld ?_ ?_
           rotate_left
           ·rintro w' ⟨s0, s1, s2, s3, s4, s5, s6, s7, s8, s9, s10, s11, s12, s13, s14, s15, s16, s17, s18, s19, s20⟩
            go_simp
            with_reducible rfl
           rotate_left
           ·simp only [Act.put, List.setIfInBounds_toArray, List.set_cons_zero, List.set_cons_succ, i64_w, i32_w]
            rfl
           refine take_ (i := 2) (N := some 82) (v := ?_) (a' := ?_) #[true, false, true, false, false, false, false, false, false, false, false, false, false, false, false, false, false, false, false, false, false, false, false, false, false, false, false, false, false] rfl rfl (take_ofW HT_.out HW_.out (by kernel_rfl)) (fun _ _ _ h => h) (Or.inl ⟨by rfl, ?_⟩) hHeld ?_ ?_
           rotate_left
           ·rintro w' ⟨s0, s1, s2, s3, s4, s5, s6, s7, s8, s9, s10, s11, s12, s13, s14, s15, s16, s17, s18, s19, s20⟩
            go_simp
            with_reducible rfl
           rotate_left
           ·simp only [Act.put, List.setIfInBounds_toArray, List.set_cons_zero, List.set_cons_succ, i64_w, i32_w]
            rfl
           refine one_ (i := 1) (N := some 81) #[true, true, true, false, false, false, false, false, false, false, false, false, false, false, false, false, false, false, false, false, false, false, false, false, false, false, false, false, false] rfl rfl (one_of HT_.out (by kernel_rfl)) (by decide) (fun K hK => ?_)
           refine goes_ Tryz.func11 (by kernel_rfl) rfl #[.agg #[.int .i64 a1_0, .int .i64 a1_1, .int .i64 a1_2, .int .i64 a1_3, .int .i64 a1_4]] (by rfl) rfl rfl (by (try simp only [List.map_toArray, List.map_cons, List.map_nil]); first | done | rfl | (simp only [List.length_drop, List.length_take]; rfl)) ?_
           with_reducible refine (reply_Cost.calls a1_0 a1_1 a1_2 a1_3 a1_4 t348 _ ?side1 A43.out).mono ?_
           (case side1 => exact GInv2.below HG.out (by repeat (first | (with_reducible first | exact HB.out | apply below_alloc | apply pw_below_drewN | apply below_drew1 | refine below_set ?_ GE314.out | refine below_set ?_ GE333.out | refine below_set ?_ GE340.out | refine below_set ?_ GE347.out) | exact HB.out)))
           rintro e w72 ⟨rfl, hb⟩
           refine ⟨_, rfl, ?_⟩
           have n0_ := Aside0.mk (blk_below (g := gb314) (o := .cells #[.int .i64 a1_0, .int .i64 a1_1, .int .i64 a1_2, .int .i64 a1_3, .int .i64 a1_4] 23 (0, 0)) (by (with_reducible repeat (first | refine blk_drewN ?_ _ | refine blk_drew ?_ | refine blk_alloc ?_ _)); exact BK314.out) hb)
           have n1_ := Aside0.mk (blk_below (g := gb333) (o := .cells #[.int .i64 t327, .int .i64 t328, .int .i64 t329, .int .i64 t330, .int .i64 t331] 23 (0, 0)) (by (with_reducible repeat (first | refine blk_drewN ?_ _ | refine blk_drew ?_ | refine blk_alloc ?_ _)); exact BK333.out) hb)
           have n2_ := Aside0.mk (blk_below (g := gb340) (o := .cells #[.int .i64 t334, .int .i64 t335, .int .i64 t336, .int .i64 t337, .int .i64 t338] 23 (0, 0)) (by (with_reducible repeat (first | refine blk_drewN ?_ _ | refine blk_drew ?_ | refine blk_alloc ?_ _)); exact BK340.out) hb)
           have n3_ := Aside0.mk (blk_below (g := gb347) (o := .cells #[.int .i64 t341, .int .i64 t342, .int .i64 t343, .int .i64 t344, .int .i64 t345, .bool t346] 36 (0, 0)) (by (with_reducible repeat (first | refine blk_drewN ?_ _ | refine blk_drew ?_ | refine blk_alloc ?_ _)); exact BK347.out) hb)
           have n4_ := Aside0.mk (below_step (by repeat (first | (with_reducible first | exact HB.out | apply below_alloc | apply pw_below_drewN | apply below_drew1 | refine below_set ?_ GE314.out | refine below_set ?_ GE333.out | refine below_set ?_ GE340.out | refine below_set ?_ GE347.out) | exact HB.out)) hb)
           clear BK314
           clear BK333
           clear BK340
           clear BK347
           clear HB
           have BK314 := n0_
           have BK333 := n1_
           have BK340 := n2_
           have BK347 := n3_
           have HB := n4_
           clear n0_ n1_ n2_ n3_ n4_
           (try clear hb)
           (try clear hb2)
           (try clear hk)
           (try clear hi)
           refine hK.out _ _ ⟨(blk_cell BK314.out 0).trans rfl, (blk_cell BK314.out 1).trans rfl, (blk_cell BK314.out 2).trans rfl, (blk_cell BK314.out 3).trans rfl, (blk_cell BK314.out 4).trans rfl, (blk_cell BK333.out 0).trans rfl, (blk_cell BK333.out 1).trans rfl, (blk_cell BK333.out 2).trans rfl, (blk_cell BK333.out 3).trans rfl, (blk_cell BK333.out 4).trans rfl, (blk_cell BK340.out 0).trans rfl, (blk_cell BK340.out 1).trans rfl, (blk_cell BK340.out 2).trans rfl, (blk_cell BK340.out 3).trans rfl, (blk_cell BK340.out 4).trans rfl, (blk_cell BK347.out 0).trans rfl, (blk_cell BK347.out 1).trans rfl, (blk_cell BK347.out 2).trans rfl, (blk_cell BK347.out 3).trans rfl, (blk_cell BK347.out 4).trans rfl, (blk_cell BK347.out 5).trans rfl⟩ (fun hHeld => ?_)
           clear hK K
           refine norm_ (a' := ?_) ?_ ?_
           rotate_left
           ·show Act.put _ (some 81) _ = _
            simp only [Act.put, List.setIfInBounds_toArray, List.set_cons_zero, List.set_cons_succ, i64_w, i32_w]
            rfl
           refine one_ (i := 3) (N := some 83) #[true, true, true, true, false, false, false, false, false, false, false, false, false, false, false, false, false, false, false, false, false, false, false, false, false, false, false, false, false] rfl rfl (one_of HT_.out (by kernel_rfl)) (by decide) (fun K hK => ?_)
           refine goes_ Tryz.func13 (by kernel_rfl) rfl #[.agg #[.int .i64 a1_0, .int .i64 a1_1, .int .i64 a1_2, .int .i64 a1_3, .int .i64 a1_4]] (by rfl) rfl rfl (by (try simp only [List.map_toArray, List.map_cons, List.map_nil]); first | done | rfl | (simp only [List.length_drop, List.length_take]; rfl)) ?_
           with_reducible refine (oculusref45_Cost.calls kj10 a1_0 a1_1 a1_2 a1_3 a1_4 t349 _ A44.out).mono ?_
           rintro e w73 ⟨rfl, hb⟩
           refine ⟨_, rfl, ?_⟩
           have n0_ := Aside0.mk (blk_below (g := gb314) (o := .cells #[.int .i64 a1_0, .int .i64 a1_1, .int .i64 a1_2, .int .i64 a1_3, .int .i64 a1_4] 23 (0, 0)) (by (with_reducible repeat (first | refine blk_drewN ?_ _ | refine blk_drew ?_ | refine blk_alloc ?_ _)); exact BK314.out) hb)
           have n1_ := Aside0.mk (blk_below (g := gb333) (o := .cells #[.int .i64 t327, .int .i64 t328, .int .i64 t329, .int .i64 t330, .int .i64 t331] 23 (0, 0)) (by (with_reducible repeat (first | refine blk_drewN ?_ _ | refine blk_drew ?_ | refine blk_alloc ?_ _)); exact BK333.out) hb)
           have n2_ := Aside0.mk (blk_below (g := gb340) (o := .cells #[.int .i64 t334, .int .i64 t335, .int .i64 t336, .int .i64 t337, .int .i64 t338] 23 (0, 0)) (by (with_reducible repeat (first | refine blk_drewN ?_ _ | refine blk_drew ?_ | refine blk_alloc ?_ _)); exact BK340.out) hb)
           have n3_ := Aside0.mk (blk_below (g := gb347) (o := .cells #[.int .i64 t341, .int .i64 t342, .int .i64 t343, .int .i64 t344, .int .i64 t345, .bool t346] 36 (0, 0)) (by (with_reducible repeat (first | refine blk_drewN ?_ _ | refine blk_drew ?_ | refine blk_alloc ?_ _)); exact BK347.out) hb)
           have n4_ := Aside0.mk (below_step (by repeat (first | (with_reducible first | exact HB.out | apply below_alloc | apply pw_below_drewN | apply below_drew1 | refine below_set ?_ GE314.out | refine below_set ?_ GE333.out | refine below_set ?_ GE340.out | refine below_set ?_ GE347.out) | exact HB.out)) hb)
           clear BK314
           clear BK333
           clear BK340
           clear BK347
           clear HB
           have BK314 := n0_
           have BK333 := n1_
           have BK340 := n2_
           have BK347 := n3_
           have HB := n4_
           clear n0_ n1_ n2_ n3_ n4_
           (try clear hb)
           (try clear hb2)
           (try clear hk)
           (try clear hi)
           refine hK.out _ _ ⟨(blk_cell BK314.out 0).trans rfl, (blk_cell BK314.out 1).trans rfl, (blk_cell BK314.out 2).trans rfl, (blk_cell BK314.out 3).trans rfl, (blk_cell BK314.out 4).trans rfl, (blk_cell BK333.out 0).trans rfl, (blk_cell BK333.out 1).trans rfl, (blk_cell BK333.out 2).trans rfl, (blk_cell BK333.out 3).trans rfl, (blk_cell BK333.out 4).trans rfl, (blk_cell BK340.out 0).trans rfl, (blk_cell BK340.out 1).trans rfl, (blk_cell BK340.out 2).trans rfl, (blk_cell BK340.out 3).trans rfl, (blk_cell BK340.out 4).trans rfl, (blk_cell BK347.out 0).trans rfl, (blk_cell BK347.out 1).trans rfl, (blk_cell BK347.out 2).trans rfl, (blk_cell BK347.out 3).trans rfl, (blk_cell BK347.out 4).trans rfl, (blk_cell BK347.out 5).trans rfl⟩ (fun hHeld => ?_)
           clear hK K
           refine norm_ (a' := ?_) ?_ ?_
           rotate_left
           ·show Act.put _ (some 83) _ = _
            simp only [Act.put, List.setIfInBounds_toArray, List.set_cons_zero, List.set_cons_succ, i64_w, i32_w]
            rfl
           refine pure_ (i := 4) (N := some 84) (v := ?_) (a' := ?_) #[true, true, true, true, true, false, false, false, false, false, false, false, false, false, false, false, false, false, false, false, false, false, false, false, false, false, false, false, false] rfl rfl (any_of HT_.out (by kernel_rfl)) (fun _ _ _ h => h) (Or.inl ⟨by rfl, ?_⟩) ?_ ?_
           rotate_left
           ·intro w'
            go_simp
            with_reducible rfl
           rotate_left
           ·simp only [Act.put, List.setIfInBounds_toArray, List.set_cons_zero, List.set_cons_succ, i64_w, i32_w]
            rfl
           refine pure_ (i := 5) (N := some 85) (v := ?_) (a' := ?_) #[true, true, true, true, true, true, false, false, false, false, false, false, false, false, false, false, false, false, false, false, false, false, false, false, false, false, false, false, false] rfl rfl (any_of HT_.out (by kernel_rfl)) (fun _ _ _ h => h) (Or.inl ⟨by rfl, ?_⟩) ?_ ?_
           rotate_left
           ·intro w'
            go_simp
            with_reducible rfl
           rotate_left
           ·simp only [Act.put, List.setIfInBounds_toArray, List.set_cons_zero, List.set_cons_succ, i64_w, i32_w]
            rfl
           refine pure_ (i := 6) (N := some 86) (v := ?_) (a' := ?_) #[true, true, true, true, true, true, true, false, false, false, false, false, false, false, false, false, false, false, false, false, false, false, false, false, false, false, false, false, false] rfl rfl (any_of HT_.out (by kernel_rfl)) (fun _ _ _ h => h) (Or.inl ⟨by rfl, ?_⟩) ?_ ?_
           rotate_left
           ·intro w'
            go_simp
            with_reducible rfl
           rotate_left
           ·simp only [Act.put, List.setIfInBounds_toArray, List.set_cons_zero, List.set_cons_succ, i64_w, i32_w]
            rfl
           refine pure_ (i := 7) (N := some 87) (v := ?_) (a' := ?_) #[true, true, true, true, true, true, true, true, false, false, false, false, false, false, false, false, false, false, false, false, false, false, false, false, false, false, false, false, false] rfl rfl (any_of HT_.out (by kernel_rfl)) (fun _ _ _ h => h) (Or.inl ⟨by rfl, ?_⟩) ?_ ?_
           rotate_left
           ·intro w'
            go_simp
            with_reducible rfl
           rotate_left
           ·simp only [Act.put, List.setIfInBounds_toArray, List.set_cons_zero, List.set_cons_succ, i64_w, i32_w]
            rfl
           refine pure_ (i := 8) (N := some 88) (v := ?_) (a' := ?_) #[true, true, true, true, true, true, true, true, true, false, false, false, false, false, false, false, false, false, false, false, false, false, false, false, false, false, false, false, false] rfl rfl (any_of HT_.out (by kernel_rfl)) (fun _ _ _ h => h) (Or.inl ⟨by rfl, ?_⟩) ?_ ?_
           rotate_left
           ·intro w'
            go_simp
            with_reducible rfl
           rotate_left
           ·simp only [Act.put, List.setIfInBounds_toArray, List.set_cons_zero, List.set_cons_succ, i64_w, i32_w]
            rfl
           refine take_ (i := 9) (N := some 89) (v := ?_) (a' := ?_) #[true, true, true, true, true, true, true, true, true, true, false, false, false, false, false, false, false, false, false, false, false, false, false, false, false, false, false, false, false] rfl rfl (take_ofW HT_.out HW_.out (by kernel_rfl)) (fun _ _ _ h => h) (Or.inl ⟨by rfl, ?_⟩) hHeld ?_ ?_
           rotate_left
           ·rintro w' ⟨s0, s1, s2, s3, s4, s5, s6, s7, s8, s9, s10, s11, s12, s13, s14, s15, s16, s17, s18, s19, s20⟩
            go_simp
            with_reducible rfl
           rotate_left
           ·simp only [Act.put, List.setIfInBounds_toArray, List.set_cons_zero, List.set_cons_succ, i64_w, i32_w]
            rfl
           refine take_ (i := 10) (N := some 90) (v := ?_) (a' := ?_) #[true, true, true, true, true, true, true, true, true, true, true, false, false, false, false, false, false, false, false, false, false, false, false, false, false, false, false, false, false] rfl rfl (take_ofW HT_.out HW_.out (by kernel_rfl)) (fun _ _ _ h => h) (Or.inl ⟨by rfl, ?_⟩) hHeld ?_ ?_
           rotate_left
           ·rintro w' ⟨s0, s1, s2, s3, s4, s5, s6, s7, s8, s9, s10, s11, s12, s13, s14, s15, s16, s17, s18, s19, s20⟩
            go_simp
            with_reducible rfl
           rotate_left
           ·simp only [Act.put, List.setIfInBounds_toArray, List.set_cons_zero, List.set_cons_succ, i64_w, i32_w]
            rfl
           refine pure_ (i := 11) (N := some 91) (v := ?_) (a' := ?_) #[true, true, true, true, true, true, true, true, true, true, true, true, false, false, false, false, false, false, false, false, false, false, false, false, false, false, false, false, false] rfl rfl (any_of HT_.out (by kernel_rfl)) (fun _ _ _ h => h) (Or.inl ⟨by rfl, ?_⟩) ?_ ?_
           rotate_left
           ·intro w'
            go_simp
            with_reducible rfl
           rotate_left
           ·simp only [Act.put, List.setIfInBounds_toArray, List.set_cons_zero, List.set_cons_succ, i64_w, i32_w]
            rfl
           refine pure_ (i := 12) (N := some 92) (v := ?_) (a' := ?_) #[true, true, true, true, true, true, true, true, true, true, true, true, true, false, false, false, false, false, false, false, false, false, false, false, false, false, false, false, false] rfl rfl (any_of HT_.out (by kernel_rfl)) (fun _ _ _ h => h) (Or.inl ⟨by rfl, ?_⟩) ?_ ?_
           rotate_left
           ·intro w'
            go_simp
            with_reducible rfl
           rotate_left
           ·simp only [Act.put, List.setIfInBounds_toArray, List.set_cons_zero, List.set_cons_succ, i64_w, i32_w]
            rfl
           refine pure_ (i := 13) (N := some 93) (v := ?_) (a' := ?_) #[true, true, true, true, true, true, true, true, true, true, true, true, true, true, false, false, false, false, false, false, false, false, false, false, false, false, false, false, false] rfl rfl (any_of HT_.out (by kernel_rfl)) (fun _ _ _ h => h) (Or.inl ⟨by rfl, ?_⟩) ?_ ?_
           rotate_left
           ·intro w'
            go_simp
            with_reducible rfl
           rotate_left
           ·simp only [Act.put, List.setIfInBounds_toArray, List.set_cons_zero, List.set_cons_succ, i64_w, i32_w]
            rfl
           refine pure_ (i := 15) (N := some 95) (v := ?_) (a' := ?_) #[true, true, true, true, true, true, true, true, true, true, true, true, true, true, false, true, false, false, false, false, false, false, false, false, false, false, false, false, false] rfl rfl (any_of HT_.out (by kernel_rfl)) (fun _ _ _ h => h) (Or.inl ⟨by rfl, ?_⟩) ?_ ?_
           rotate_left
           ·intro w'
            go_simp
            with_reducible rfl
           rotate_left
           ·simp only [Act.put, List.setIfInBounds_toArray, List.set_cons_zero, List.set_cons_succ, i64_w, i32_w]
            rfl
           refine take_ (i := 14) (N := some 94) (v := ?_) (a' := ?_) #[true, true, true, true, true, true, true, true, true, true, true, true, true, true, true, true, false, false, false, false, false, false, false, false, false, false, false, false, false] rfl rfl (take_ofW HT_.out HW_.out (by kernel_rfl)) (fun _ _ _ h => h) (Or.inl ⟨by rfl, ?_⟩) hHeld ?_ ?_
           rotate_left
           ·rintro w' ⟨s0, s1, s2, s3, s4, s5, s6, s7, s8, s9, s10, s11, s12, s13, s14, s15, s16, s17, s18, s19, s20⟩
            go_simp
            with_reducible rfl
           rotate_left
           ·simp only [Act.put, List.setIfInBounds_toArray, List.set_cons_zero, List.set_cons_succ, i64_w, i32_w]
            rfl
           refine take_ (i := 16) (N := some 96) (v := ?_) (a' := ?_) #[true, true, true, true, true, true, true, true, true, true, true, true, true, true, true, true, true, false, false, false, false, false, false, false, false, false, false, false, false] rfl rfl (take_ofW HT_.out HW_.out (by kernel_rfl)) (fun _ _ _ h => h) (Or.inl ⟨by rfl, ?_⟩) hHeld ?_ ?_
           rotate_left
           ·rintro w' ⟨s0, s1, s2, s3, s4, s5, s6, s7, s8, s9, s10, s11, s12, s13, s14, s15, s16, s17, s18, s19, s20⟩
            go_simp
            with_reducible rfl
           rotate_left
           ·simp only [Act.put, List.setIfInBounds_toArray, List.set_cons_zero, List.set_cons_succ, i64_w, i32_w]
            rfl
           refine pure_ (i := 17) (N := some 97) (v := ?_) (a' := ?_) #[true, true, true, true, true, true, true, true, true, true, true, true, true, true, true, true, true, true, false, false, false, false, false, false, false, false, false, false, false] rfl rfl (any_of HT_.out (by kernel_rfl)) (fun _ _ _ h => h) (Or.inl ⟨by rfl, ?_⟩) ?_ ?_
           rotate_left
           ·intro w'
            go_simp
            with_reducible rfl
           rotate_left
           ·simp only [Act.put, List.setIfInBounds_toArray, List.set_cons_zero, List.set_cons_succ, i64_w, i32_w]
            rfl
           refine pure_ (i := 18) (N := some 98) (v := ?_) (a' := ?_) #[true, true, true, true, true, true, true, true, true, true, true, true, true, true, true, true, true, true, true, false, false, false, false, false, false, false, false, false, false] rfl rfl (any_of HT_.out (by kernel_rfl)) (fun _ _ _ h => h) (Or.inl ⟨by rfl, ?_⟩) ?_ ?_
           rotate_left
           ·intro w'
            go_simp
            with_reducible rfl
           rotate_left
           ·simp only [Act.put, List.setIfInBounds_toArray, List.set_cons_zero, List.set_cons_succ, i64_w, i32_w]
            rfl
           refine pure_ (i := 19) (N := some 99) (v := ?_) (a' := ?_) #[true, true, true, true, true, true, true, true, true, true, true, true, true, true, true, true, true, true, true, true, false, false, false, false, false, false, false, false, false] rfl rfl (any_of HT_.out (by kernel_rfl)) (fun _ _ _ h => h) (Or.inl ⟨by rfl, ?_⟩) ?_ ?_
           rotate_left
           ·intro w'
            go_simp
            with_reducible rfl
           rotate_left
           ·simp only [Act.put, List.setIfInBounds_toArray, List.set_cons_zero, List.set_cons_succ, i64_w, i32_w]
            rfl
           refine pure_ (i := 20) (N := some 100) (v := ?_) (a' := ?_) #[true, true, true, true, true, true, true, true, true, true, true, true, true, true, true, true, true, true, true, true, true, false, false, false, false, false, false, false, false] rfl rfl (any_of HT_.out (by kernel_rfl)) (fun _ _ _ h => h) (Or.inl ⟨by rfl, ?_⟩) ?_ ?_
           rotate_left
           ·intro w'
            go_simp
            with_reducible rfl
           rotate_left
           ·simp only [Act.put, List.setIfInBounds_toArray, List.set_cons_zero, List.set_cons_succ, i64_w, i32_w]
            rfl
           refine pure_ (i := 21) (N := some 101) (v := ?_) (a' := ?_) #[true, true, true, true, true, true, true, true, true, true, true, true, true, true, true, true, true, true, true, true, true, true, false, false, false, false, false, false, false] rfl rfl (any_of HT_.out (by kernel_rfl)) (fun _ _ _ h => h) (Or.inl ⟨by rfl, ?_⟩) ?_ ?_
           rotate_left
           ·intro w'
            go_simp
            with_reducible rfl
           rotate_left
           ·simp only [Act.put, List.setIfInBounds_toArray, List.set_cons_zero, List.set_cons_succ, i64_w, i32_w]
            rfl
           refine take_ (i := 22) (N := some 102) (v := ?_) (a' := ?_) #[true, true, true, true, true, true, true, true, true, true, true, true, true, true, true, true, true, true, true, true, true, true, true, false, false, false, false, false, false] rfl rfl (take_ofW HT_.out HW_.out (by kernel_rfl)) (fun _ _ _ h => h) (Or.inl ⟨by rfl, ?_⟩) hHeld ?_ ?_
           rotate_left
           ·rintro w' ⟨s0, s1, s2, s3, s4, s5, s6, s7, s8, s9, s10, s11, s12, s13, s14, s15, s16, s17, s18, s19, s20⟩
            go_simp
            with_reducible rfl
           rotate_left
           ·simp only [Act.put, List.setIfInBounds_toArray, List.set_cons_zero, List.set_cons_succ, i64_w, i32_w]
            rfl
           refine pure_ (i := 23) (N := some 103) (v := ?_) (a' := ?_) #[true, true, true, true, true, true, true, true, true, true, true, true, true, true, true, true, true, true, true, true, true, true, true, true, false, false, false, false, false] rfl rfl (any_of HT_.out (by kernel_rfl)) (fun _ _ _ h => h) (Or.inl ⟨by rfl, ?_⟩) ?_ ?_
           rotate_left
           ·intro w'
            go_simp
            with_reducible rfl
           rotate_left
           ·simp only [Act.put, List.setIfInBounds_toArray, List.set_cons_zero, List.set_cons_succ, i64_w, i32_w]
            rfl
           refine pure_ (i := 24) (N := some 104) (v := ?_) (a' := ?_) #[true, true, true, true, true, true, true, true, true, true, true, true, true, true, true, true, true, true, true, true, true, true, true, true, true, false, false, false, false] rfl rfl (any_of HT_.out (by kernel_rfl)) (fun _ _ _ h => h) (Or.inl ⟨by rfl, ?_⟩) ?_ ?_
           rotate_left
           ·intro w'
            go_simp
            with_reducible rfl
           rotate_left
           ·simp only [Act.put, List.setIfInBounds_toArray, List.set_cons_zero, List.set_cons_succ, i64_w, i32_w]
            rfl
           refine pure_ (i := 25) (N := some 105) (v := ?_) (a' := ?_) #[true, true, true, true, true, true, true, true, true, true, true, true, true, true, true, true, true, true, true, true, true, true, true, true, true, true, false, false, false] rfl rfl (any_of HT_.out (by kernel_rfl)) (fun _ _ _ h => h) (Or.inl ⟨by rfl, ?_⟩) ?_ ?_
           rotate_left
           ·intro w'
            go_simp
            with_reducible rfl
           rotate_left
           ·simp only [Act.put, List.setIfInBounds_toArray, List.set_cons_zero, List.set_cons_succ, i64_w, i32_w]
            rfl
           refine one_ (i := 26) (N := some 106) #[true, true, true, true, true, true, true, true, true, true, true, true, true, true, true, true, true, true, true, true, true, true, true, true, true, true, true, false, false] rfl rfl (one_of HT_.out (by kernel_rfl)) (by decide) (fun K hK => ?_)
           refine goes_ Tryz.func4 (by kernel_rfl) rfl #[] (by rfl) rfl rfl (by (try simp only [List.map_toArray, List.map_cons, List.map_nil]); first | done | rfl | (simp only [List.length_drop, List.length_take]; rfl)) ?_
           with_reducible refine (oculuslaw45_alive.calls kj10  t350 _ ?side1 A50.out).mono ?_
           (case side1 => exact GInv.below (GInv2.one HG.out) (by repeat (first | (with_reducible first | exact HB.out | apply below_alloc | apply pw_below_drewN | apply below_drew1 | refine below_set ?_ GE314.out | refine below_set ?_ GE333.out | refine below_set ?_ GE340.out | refine below_set ?_ GE347.out) | exact HB.out)))
           rintro e w74 ⟨rfl, hb⟩
           refine ⟨_, rfl, ?_⟩
           have n0_ := Aside0.mk (blk_below (g := gb314) (o := .cells #[.int .i64 a1_0, .int .i64 a1_1, .int .i64 a1_2, .int .i64 a1_3, .int .i64 a1_4] 23 (0, 0)) (by (with_reducible repeat (first | refine blk_drewN ?_ _ | refine blk_drew ?_ | refine blk_alloc ?_ _)); exact BK314.out) hb)
           have n1_ := Aside0.mk (blk_below (g := gb333) (o := .cells #[.int .i64 t327, .int .i64 t328, .int .i64 t329, .int .i64 t330, .int .i64 t331] 23 (0, 0)) (by (with_reducible repeat (first | refine blk_drewN ?_ _ | refine blk_drew ?_ | refine blk_alloc ?_ _)); exact BK333.out) hb)
           have n2_ := Aside0.mk (blk_below (g := gb340) (o := .cells #[.int .i64 t334, .int .i64 t335, .int .i64 t336, .int .i64 t337, .int .i64 t338] 23 (0, 0)) (by (with_reducible repeat (first | refine blk_drewN ?_ _ | refine blk_drew ?_ | refine blk_alloc ?_ _)); exact BK340.out) hb)
           have n3_ := Aside0.mk (blk_below (g := gb347) (o := .cells #[.int .i64 t341, .int .i64 t342, .int .i64 t343, .int .i64 t344, .int .i64 t345, .bool t346] 36 (0, 0)) (by (with_reducible repeat (first | refine blk_drewN ?_ _ | refine blk_drew ?_ | refine blk_alloc ?_ _)); exact BK347.out) hb)
           have n4_ := Aside0.mk (below_step (by repeat (first | (with_reducible first | exact HB.out | apply below_alloc | apply pw_below_drewN | apply below_drew1 | refine below_set ?_ GE314.out | refine below_set ?_ GE333.out | refine below_set ?_ GE340.out | refine below_set ?_ GE347.out) | exact HB.out)) hb)
           clear BK314
           clear BK333
           clear BK340
           clear BK347
           clear HB
           have BK314 := n0_
           have BK333 := n1_
           have BK340 := n2_
           have BK347 := n3_
           have HB := n4_
           clear n0_ n1_ n2_ n3_ n4_
           (try clear hb)
           (try clear hb2)
           (try clear hk)
           (try clear hi)
           refine hK.out _ _ ⟨(blk_cell BK314.out 0).trans rfl, (blk_cell BK314.out 1).trans rfl, (blk_cell BK314.out 2).trans rfl, (blk_cell BK314.out 3).trans rfl, (blk_cell BK314.out 4).trans rfl, (blk_cell BK333.out 0).trans rfl, (blk_cell BK333.out 1).trans rfl, (blk_cell BK333.out 2).trans rfl, (blk_cell BK333.out 3).trans rfl, (blk_cell BK333.out 4).trans rfl, (blk_cell BK340.out 0).trans rfl, (blk_cell BK340.out 1).trans rfl, (blk_cell BK340.out 2).trans rfl, (blk_cell BK340.out 3).trans rfl, (blk_cell BK340.out 4).trans rfl, (blk_cell BK347.out 0).trans rfl, (blk_cell BK347.out 1).trans rfl, (blk_cell BK347.out 2).trans rfl, (blk_cell BK347.out 3).trans rfl, (blk_cell BK347.out 4).trans rfl, (blk_cell BK347.out 5).trans rfl⟩ (fun hHeld => ?_)
           clear hK K
           refine norm_ (a' := ?_) ?_ ?_
           rotate_left
           ·show Act.put _ (some 106) _ = _
            simp only [Act.put, List.setIfInBounds_toArray, List.set_cons_zero, List.set_cons_succ, i64_w, i32_w]
            rfl
           refine pure_ (i := 27) (N := some 107) (v := ?_) (a' := ?_) #[true, true, true, true, true, true, true, true, true, true, true, true, true, true, true, true, true, true, true, true, true, true, true, true, true, true, true, true, false] rfl rfl (any_of HT_.out (by kernel_rfl)) (fun _ _ _ h => h) (Or.inl ⟨by rfl, ?_⟩) ?_ ?_
           rotate_left
           ·intro w'
            go_simp
            with_reducible rfl
           rotate_left
           ·simp only [Act.put, List.setIfInBounds_toArray, List.set_cons_zero, List.set_cons_succ, i64_w, i32_w]
            rfl
           refine pure_ (i := 28) (N := some 6) (v := ?_) (a' := ?_) #[true, true, true, true, true, true, true, true, true, true, true, true, true, true, true, true, true, true, true, true, true, true, true, true, true, true, true, true, true] rfl rfl (any_of HT_.out (by kernel_rfl)) (fun _ _ _ h => h) (Or.inl ⟨by rfl, ?_⟩) ?_ ?_
           rotate_left
           ·intro w'
            go_simp
            with_reducible rfl
           rotate_left
           ·simp only [Act.put, List.setIfInBounds_toArray, List.set_cons_zero, List.set_cons_succ, i64_w, i32_w]
            rfl
           refine done_ (done_of HT_.out (by kernel_rfl)) ?_
           try go_wp2
           go_ret
           exact ⟨by first | rfl | (simp [errW_none, errW_some] <;> rfl) | (simp [*, errW_none, errW_some] <;> rfl), by repeat (first | (with_reducible first | exact HB.out | apply below_alloc | apply pw_below_drewN | apply below_drew1 | refine below_set ?_ GE314.out | refine below_set ?_ GE333.out | refine below_set ?_ GE340.out | refine below_set ?_ GE347.out) | exact HB.out)⟩
          ·exact absurd (HV6.out _ _ _ _ _ _ _ _ _ _ _ _ _ HT.out A41.out A42.out).2 c49
         ·exact absurd (HV6.out _ _ _ _ _ _ _ _ _ _ _ _ _ HT.out A41.out A42.out).1 c48
        ·exact absurd (HV5.out _ _ _ _ _ _ _ A37.out A39.out A40.out).2 c47
       ·exact absurd (HV5.out _ _ _ _ _ _ _ A37.out A39.out A40.out).1 c46
      ·exact absurd (HV4.out _ _ _ A37.out A43.out A44.out) c45
     ·replace c38 := Bool.eq_false_iff.mpr c38
      subst c38
      have H1 : ((oculuslaw45_alive.f kj10).bind fun t325 => (some t325)) = some r := by rw [if_neg (show ¬ (false = true) by decide)] at H; exact H
      clear H
      have H := H1
      clear H1
      replace H := Option.bind_eq_some_iff.mp H
      obtain ⟨t325, A1900, H⟩ := H
      replace H : (some t325) = some r := H
      have A190 := Aside0.mk A1900
      clear A1900
      obtain rfl := Option.some.inj H
      have hcz191_0 : wc.cell? ⟨gb314, 0, none⟩ = some (.int .i64 a1_0) := (blk_cell BK314.out 0).trans rfl
      have hcz191_1 : wc.cell? ⟨gb314, 1, none⟩ = some (.int .i64 a1_1) := (blk_cell BK314.out 1).trans rfl
      have hcz191_2 : wc.cell? ⟨gb314, 2, none⟩ = some (.int .i64 a1_2) := (blk_cell BK314.out 2).trans rfl
      have hcz191_3 : wc.cell? ⟨gb314, 3, none⟩ = some (.int .i64 a1_3) := (blk_cell BK314.out 3).trans rfl
      have hcz191_4 : wc.cell? ⟨gb314, 4, none⟩ = some (.int .i64 a1_4) := (blk_cell BK314.out 4).trans rfl
      have hfz191_0 := blk_frozen BK314.out 0
      have hfz191_1 := blk_frozen BK314.out 1
      have hfz191_2 := blk_frozen BK314.out 2
      have hfz191_3 := blk_frozen BK314.out 3
      have hfz191_4 := blk_frozen BK314.out 4
      go_wp2_with (first | ((with_reducible refine gate_callee (f := 9) rfl ?_); refine goesL_ (some 64) rfl rfl Tryz.func9 (by kernel_rfl) rfl #[.agg #[.int .i64 a1_0, .int .i64 a1_1, .int .i64 a1_2, .int .i64 a1_3, .int .i64 a1_4]] rfl (by (try simp only [List.map_toArray, List.map_cons, List.map_nil]); first | done | rfl | (simp only [List.length_drop, List.length_take]; rfl)) ?_; (with_reducible refine (oculusref36_Right.calls a1_0 a1_1 a1_2 a1_3 a1_4 false _ A37.out).mono ?_); rintro e w192 ⟨rfl, hb⟩; refine ⟨_, rfl, ?_⟩; have n0_ := Aside0.mk (blk_below (g := gb314) (o := .cells #[.int .i64 a1_0, .int .i64 a1_1, .int .i64 a1_2, .int .i64 a1_3, .int .i64 a1_4] 23 (0, 0)) (by (with_reducible repeat (first | refine blk_drewN ?_ _ | refine blk_drew ?_ | refine blk_alloc ?_ _)); exact BK314.out) hb); have n1_ := Aside0.mk (below_step (by repeat (first | (with_reducible first | exact HB.out | apply below_alloc | apply pw_below_drewN | apply below_drew1 | refine below_set ?_ GE314.out) | exact HB.out)) hb); clear BK314; clear HB; have BK314 := n0_; have HB := n1_; clear n0_ n1_; (try clear hb); (try clear hb2); (try clear hk); (try clear hi)) | ((with_reducible refine gate_callee (f := 4) rfl ?_); refine goesL_ (some 66) rfl rfl Tryz.func4 (by kernel_rfl) rfl #[] rfl (by (try simp only [List.map_toArray, List.map_cons, List.map_nil]); first | done | rfl | (simp only [List.length_drop, List.length_take]; rfl)) ?_; (with_reducible refine (oculuslaw45_alive.calls kj10  t325 _ ?side1 A190.out).mono ?_); (case side1 => exact GInv.below (GInv2.one HG.out) (by repeat (first | (with_reducible first | exact HB.out | apply below_alloc | apply pw_below_drewN | apply below_drew1 | refine below_set ?_ GE314.out) | exact HB.out))); rintro e w193 ⟨rfl, hb⟩; refine ⟨_, rfl, ?_⟩; have n0_ := Aside0.mk (blk_below (g := gb314) (o := .cells #[.int .i64 a1_0, .int .i64 a1_1, .int .i64 a1_2, .int .i64 a1_3, .int .i64 a1_4] 23 (0, 0)) (by (with_reducible repeat (first | refine blk_drewN ?_ _ | refine blk_drew ?_ | refine blk_alloc ?_ _)); exact BK314.out) hb); have n1_ := Aside0.mk (below_step (by repeat (first | (with_reducible first | exact HB.out | apply below_alloc | apply pw_below_drewN | apply below_drew1 | refine below_set ?_ GE314.out) | exact HB.out)) hb); clear BK314; clear HB; have BK314 := n0_; have HB := n1_; clear n0_ n1_; (try clear hb); (try clear hb2); (try clear hk); (try clear hi)))
      go_ret
      exact ⟨by first | rfl | (simp [errW_none, errW_some] <;> rfl) | (simp [*, errW_none, errW_some] <;> rfl), by repeat (first | (with_reducible first | exact HB.out | apply below_alloc | apply pw_below_drewN | apply below_drew1 | refine below_set ?_ GE314.out) | exact HB.out)⟩
end Go.Proofs.YtaljjdodjimgdaaGreatDoor.P
namespace Go.Proofs.YtaljjdodjimgdaaGreatDoor.P
open Go.RowKit Go.Proofs.YtaljjdodjimgdaaGreatDoorW.PrintWords Go.Proofs.YtaljjdodjimgdaaGreatDoorW.PrintLast Go.Proofs.YtaljjdodjimgdaaGreatDoorW.PrintMore
theorem backOf_ne (t : ByteArray) (l : List ByteArray) (h : l.length ≠ 10) : backOf t l = (0, 0, 0, 0, 0, false) := by
 unfold backOf
 split
 ·exact absurd rfl h
 ·rfl
theorem ref36_parse (t : ByteArray) (ht : t.size ≤ 1000000) : Ev (fun k => oculusref36_Parse.f k t) (back t) := by
 have hw : Ev (fun k => oculusref07_Words.f k t) (wordsB t) := words_is t.data.toList (by rw [← size_data]; exact ht)
 unfold oculusref36_Parse.f
 refine Ev.bind hw ?_
 by_cases hl : (wordsB t).length = 10
 ·obtain ⟨q0, q1, q2, q3, q4, q5, q6, q7, q8, q9, hq⟩ : ∃ q0 q1 q2 q3 q4 q5 q6 q7 q8 q9, wordsB t = [q0, q1, q2, q3, q4, q5, q6, q7, q8, q9] := by
   match wordsB t, hl with
   | [q0, q1, q2, q3, q4, q5, q6, q7, q8, q9], _ => exact ⟨_, _, _, _, _, _, _, _, _, _, rfl⟩
  have hs : ∀ x ∈ [q0, q1, q2, q3, q4, q5, q6, q7, q8, q9], x.data.toList.length ≤ 1000000 := fun x hx => by
   rw [← hq] at hx
   have := words_size t x hx
   rw [← size_data]
   omega
  have hb : back t = back5 t (refNum q1.data.toList 0) (refNum q3.data.toList 0) (refNum q5.data.toList 0) (refNum q7.data.toList 0) (refNum q9.data.toList 0) := by
   unfold back
   rw [hq]
   rfl
  rw [hb, hq]
  have R : ∀ x ∈ [q0, q1, q2, q3, q4, q5, q6, q7, q8, q9], Ev (fun k => oculusref36_number.f k x) (refNum x.data.toList 0) := fun x hx => refNum_is x.data.toList (hs x hx)
  refine ev_pos rfl (ev_pos (by decide : (1 : Int) < 10) (Ev.bind (R q1 (by simp)) ?_))
  refine ev_pos (by decide : (3 : Int) < 10) (Ev.bind (R q3 (by simp)) ?_)
  refine ev_pos (by decide : (5 : Int) < 10) (Ev.bind (R q5 (by simp)) ?_)
  refine ev_pos (by decide : (7 : Int) < 10) (Ev.bind (R q7 (by simp)) ?_)
  refine ev_pos (by decide : (9 : Int) < 10) (Ev.bind (R q9 (by simp)) ?_)
  refine ev_eq (Right_is _ _ _ _ _) ?_
  unfold back5
  generalize refNum q1.data.toList 0 = a
  generalize refNum q3.data.toList 0 = b
  generalize refNum q5.data.toList 0 = c
  generalize refNum q7.data.toList 0 = d
  generalize refNum q9.data.toList 0 = e
  by_cases hin : ∀ n ∈ [a, b, c, d, e], inCount n
  ·refine ev_pos (decide_eq_true hin) (Ev.bind (ref36_text a b c d e) ?_)
   have hm : meterText [a, b, c, d, e] = mkS (pairs true meterW [a, b, c, d, e]) := by unfold meterText; rw [if_pos hin]
   rw [hm]
   by_cases he : pairs true meterW [a, b, c, d, e] = t.data.toList
   ·exact ev_sub (ev_pos (by rw [mkS_toList, toList_data]; exact he) (ev_now _)) (if_pos ⟨hin, he⟩).symm
   ·exact ev_sub (ev_neg (by rw [mkS_toList, toList_data]; exact he) (ev_now _)) (if_neg (fun h => he h.2)).symm
  ·exact ev_sub (ev_neg (by rw [decide_eq_true_eq]; exact hin) (ev_now _)) (if_neg (fun h => hin h.1)).symm
 ·rw [show back t = _ from backOf_ne t _ hl]
  exact ev_neg (by omega) (ev_now _)
def costOf (t : ByteArray) : Int × Int × Int × Int × Int × Bool := if Lib.hasPrefix t.data.toList costWord = true then back (mkS (t.data.toList.drop 5)) else (0, 0, 0, 0, 0, false)
theorem reply_readcost (t : ByteArray) (ht : t.size ≤ 1000000) : reply_ReadCost.f t = some (costOf t) := by
 unfold reply_ReadCost.f costOf
 have e1 : strings_CutPrefix.f t (⟨#[99, 111, 115, 116, 32]⟩ : ByteArray) = some (mkS (Lib.trimPrefix t.data.toList costWord), Lib.hasPrefix t.data.toList costWord) := rfl
 rw [e1, Option.bind_some]
 by_cases h : Lib.hasPrefix t.data.toList costWord = true
 ·rw [if_pos h, if_pos h]
  have e2 : Lib.trimPrefix t.data.toList costWord = t.data.toList.drop 5 := if_pos h
  have e3 : meter_Parse.f (mkS (Lib.trimPrefix t.data.toList costWord)) = some (back (mkS (t.data.toList.drop 5))) := by
   unfold meter_Parse.f
   rw [e2]
   refine if_pos ?_
   show (mkS _).size ≤ 1000000
   rw [mkS_size, List.length_drop]
   rw [size_data] at ht
   omega
  rw [e3]
  rfl
 ·rw [if_neg h, if_neg h]
theorem ref_readcost (t : ByteArray) (ht : t.size ≤ 1000000) : Ev (fun k => oculusref45_ReadCost.f k t) (costOf t) := by
 unfold oculusref45_ReadCost.f costOf
 have hr := Lib.hasPrefix_raw t (mkS costWord)
 rw [mkS_data] at hr
 have h5 : (mkS costWord).size = 5 := rfl
 rw [h5] at hr
 by_cases h : (t.size : Int) < 5
 ·rw [if_neg (show ¬ Lib.hasPrefix t.data.toList costWord = true by rw [← hr]; simp; omega)]
  exact ev_pos h (ev_now _)
 ·refine ev_neg h (ev_pos (by decide) (ev_pos (by omega) ?_))
  by_cases h1 : (t.extract 0 5).toList = costWord
  ·have hp : Lib.hasPrefix t.data.toList costWord = true := by
    rw [← hr, decide_eq_true (by omega), Bool.true_and]
    rw [mkS_toList]
    exact beq_iff_eq.mpr h1
   rw [if_pos hp]
   refine ev_pos h1 ?_
   have e2 : t.extract 5 t.size = mkS (t.data.toList.drop 5) := by
    have := mkS_extract t.data.toList 5 t.size
    rw [size_data, List.take_length] at this
    rw [size_data]
    exact this
   rw [e2]
   refine Ev.bind (ref36_parse (mkS (t.data.toList.drop 5)) ?_) (ev_now _)
   rw [mkS_size, List.length_drop]
   rw [size_data] at ht
   omega
  ·have hp : ¬ Lib.hasPrefix t.data.toList costWord = true := by
    rw [← hr]
    intro hh
    rw [Bool.and_eq_true, mkS_toList] at hh
    exact h1 (beq_iff_eq.mp hh.2)
   rw [if_neg hp]
   exact ev_neg h1 (ev_now _)
theorem pairs_len5 (a b c d e : Int) (h : ∀ n ∈ [a, b, c, d, e], inCount n) : (pairs true meterW [a, b, c, d, e]).length ≤ 300 := by
 have D : ∀ n : Int, inCount n → (Lib.decDigits n.toNat).length ≤ 20 := fun n hn => dec_len20 n.toNat (by have := hn.2; omega)
 obtain ⟨ha, hb, hc, hd, he⟩ := (all5 a b c d e).1 h
 have la := D a ha
 have lb := D b hb
 have lc := D c hc
 have ld := D d hd
 have le := D e he
 simp [pairs, meterW]
 omega
def costText (a b c d e : Int) : ByteArray := mkS (costWord ++ pairs true meterW [a, b, c, d, e])
theorem reply_cost (a b c d e : Int) (h : ∀ n ∈ [a, b, c, d, e], inCount n) : reply_Cost.f a b c d e = some (costText a b c d e) := by
 have hl := pairs_len5 a b c d e h
 have e1 : meter_Text.f a b c d e = some (mkS (pairs true meterW [a, b, c, d, e])) := by
  rw [meter_Text_f]
  unfold meterText
  rw [if_pos h]
 unfold reply_Cost.f
 rw [e1, Option.bind_some, mkS_size, if_pos (by omega), lit_mkS, mkS_append]
 rfl
theorem ref_cost (a b c d e : Int) (h : ∀ n ∈ [a, b, c, d, e], inCount n) : Ev (fun k => oculusref45_Cost.f k a b c d e) (costText a b c d e) := by
 have hl := pairs_len5 a b c d e h
 have e1 := ref36_text a b c d e
 have hm : meterText [a, b, c, d, e] = mkS (pairs true meterW [a, b, c, d, e]) := by unfold meterText; rw [if_pos h]
 rw [hm] at e1
 unfold oculusref45_Cost.f
 refine Ev.bind e1 (ev_pos (by rw [mkS_size]; omega) (ev_sub (ev_now _) ?_))
 rw [lit_mkS, mkS_append]
 rfl
theorem costOf_text (a b c d e : Int) (h : ∀ n ∈ [a, b, c, d, e], inCount n) : costOf (costText a b c d e) = (a, b, c, d, e, true) := by
 unfold costOf costText
 rw [mkS_data, if_pos (hasPrefix_own _ _)]
 exact back_told ⟨h, rfl⟩
theorem costText_size (a b c d e : Int) (h : ∀ n ∈ [a, b, c, d, e], inCount n) : (costText a b c d e).size ≤ 1000000 := by
 have hl := pairs_len5 a b c d e h
 unfold costText
 rw [mkS_size, List.length_append]
 have : costWord.length = 5 := rfl
 omega
theorem replyBack_j0 (t : ByteArray) (ht : t.size ≤ 1000000) (a b c d e : Int) : Ev (fun k => oculuslaw45_ReplyBack.j0 k t false a b c d e) true := by
 refine ev_succ (fun k => oculuslaw45_ReplyBack.j0.eq_2 ..) (ev_neg (by simp) (ev_eq (Right_is a b c d e) ?_))
 by_cases h : ∀ n ∈ [a, b, c, d, e], inCount n
 ·refine ev_pos (decide_eq_true h) ?_
  refine ev_eq (reply_cost a b c d e h) (ev_eq (reply_readcost _ (costText_size a b c d e h)) (ev_eq (reply_readcost t ht) (Ev.bind (ref_readcost t ht) (ev_eq (reply_cost a b c d e h) (Ev.bind (ref_cost a b c d e h) ?_)))))
  rw [costOf_text a b c d e h]
  refine ev_pos rfl (ev_pos rfl (ev_pos (by simp) (ev_pos (by simp) (ev_pos (by simp) (Ev.bind ev_alive45 (ev_now _))))))
 ·exact ev_neg (by rw [decide_eq_true_eq]; exact h) (Ev.bind ev_alive45 (ev_now _))
theorem replyBack_pure (n a b c d e : Int) (t : ByteArray) : ∃ k, oculuslaw45_ReplyBack.f k n a b c d e t = some true := by
 apply Ev.rounds
 unfold oculuslaw45_ReplyBack.f
 by_cases ht : (t.size : Int) > 200
 ·exact ev_pos ht (Ev.bind ev_alive45 (ev_now _))
 ·have ht2 : t.size ≤ 1000000 := by omega
  have hs : (mkS (errText n)).size ≤ 1000000 := by have := errText_len n; rw [mkS_size]; omega
  refine ev_neg ht (Ev.bind (reply_error n) (Ev.bind (reply_readerror (mkS (errText n)) hs) (Ev.bind (reply_readerror t ht2) (Ev.bind (ref_error n) (ev_pos rfl ?_)))))
  have hx : (decide (codeOf t.data.toList ≠ 0) != (codeOf t.data.toList != 0)) = false := by
   by_cases h : codeOf t.data.toList = 0 <;> simp [h]
  rw [mkS_data, codeOf_err]
  by_cases hin : errIn n
  ·have h0 := hin.1
   rw [if_pos hin, errText_in hin]
   have e1 : decide (n ≠ 0) = true := decide_eq_true (by omega)
   have e2 : (mkS (errWord ++ Lib.decDigits n.toNat)).toList.isEmpty = false := by rw [mkS_toList]; rfl
   rw [e2]
   refine ev_neg (by rw [e1]; show ¬ (true != !false) = true; decide) (ev_pos e1 (ev_pos rfl (Ev.bind (ref_readerror t) (ev_pos rfl ?_))))
   rw [hx]
   exact replyBack_j0 t ht2 a b c d e
  ·rw [if_neg hin]
   have e0 : errText n = [] := if_neg hin
   rw [e0]
   refine ev_neg (by rw [mkS_toList]; decide) (ev_neg (by decide) (Ev.bind (ref_readerror t) (ev_pos rfl ?_)))
   rw [hx]
   exact replyBack_j0 t ht2 a b c d e
theorem ev_val {α : Type} {f : Nat → Option α} {r v : α} {k : Nat} (hm : ∀ k, LeO (f k) (f (k + 1))) (he : Ev f r) (h : f k = some v) : v = r := ev_uniq (Ev.of hm h) he
theorem replyBack_calls (n a b c d e : Int) (t : ByteArray) (w : World) (hG : GInv2 w) :
  Calls Tryz.prog 3 #[.int .i64 n, .agg #[.int .i64 a, .int .i64 b, .int .i64 c, .int .i64 d, .int .i64 e], .string t] w fun ed w' => ed = .returned (.bool true) ∧ Below w.heap.size w w' := by
 obtain ⟨k, hk⟩ := replyBack_pure n a b c d e t
 have hs : (mkS (errText n)).size ≤ 1000000 := by have := errText_len n; rw [mkS_size]; omega
 refine oculuslaw45_ReplyBack.calls k n a b c d e t true w (fun s s' h h' => ?_) (fun s x o h h' => ?_) (fun y q z ht h h' => ?_) (fun q s s' hr h h' => ?_) (fun s b1 c1 d1 e1 f1 o hr h h' => ?_) (fun q b1 c1 d1 e1 f1 o b2 c2 d2 e2 f2 o2 ht h h' => ?_) hG hk
 ·rw [ev_val (fun k => reply_Error.mono n k) (reply_error n) h, ev_val (fun k => oculusref45_Error.mono n k) (ref_error n) h']
 ·obtain rfl := ev_val (fun k => reply_Error.mono n k) (reply_error n) h
  have hx := ev_val (fun k => reply_ReadError.mono (mkS (errText n)) k) (reply_readerror _ hs) h'
  rw [mkS_data, codeOf_err] at hx
  obtain ⟨rfl, rfl⟩ := Prod.mk.inj hx
  by_cases hin : errIn n
  ·have h0 := hin.1
   rw [if_pos hin, errText_in hin, mkS_toList, decide_eq_true (by omega)]
   exact ⟨rfl, fun _ => rfl⟩
  ·rw [if_neg hin, mkS_toList, show errText n = [] from if_neg hin]
   exact ⟨rfl, fun h => by cases h⟩
 ·have ht2 : t.size ≤ 1000000 := by omega
  have h1 := ev_val (fun k => reply_ReadError.mono t k) (reply_readerror t ht2) h
  rw [ev_val (fun k => oculusref45_ReadError.mono t k) (ref_readerror t) h']
  exact (Prod.mk.inj h1).1
 ·rw [Right_is] at hr
  have hin := of_decide_eq_true (Option.some.inj hr)
  rw [reply_cost a b c d e hin] at h
  rw [← Option.some.inj h, ev_val (fun k => oculusref45_Cost.mono a b c d e k) (ref_cost a b c d e hin) h']
 ·rw [Right_is] at hr
  have hin := of_decide_eq_true (Option.some.inj hr)
  rw [reply_cost a b c d e hin] at h
  rw [← Option.some.inj h, reply_readcost _ (costText_size a b c d e hin), costOf_text a b c d e hin] at h'
  have h2 := Option.some.inj h'
  simp only [Prod.mk.injEq] at h2
  obtain ⟨rfl, rfl, rfl, rfl, rfl, rfl⟩ := h2
  exact ⟨rfl, by simp⟩
 ·have ht2 : t.size ≤ 1000000 := by omega
  rw [reply_readcost t ht2] at h
  have h1 := ev_val (fun k => oculusref45_ReadCost.mono t k) (ref_readcost t ht2) h'
  rw [Option.some.inj h] at h1
  simp only [Prod.mk.injEq] at h1
  obtain ⟨rfl, rfl, rfl, rfl, rfl, rfl⟩ := h1
  exact ⟨by simp, by simp⟩
end Go.Proofs.YtaljjdodjimgdaaGreatDoor.P
