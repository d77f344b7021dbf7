/- The law ReplyTells answers true at every input of its row and leaves its arguments as they were; conditions: those of the row alone (the listed tables of the library read as laid). A part of the proof. -/
import Derived.Test.YtokcllgekkhaaaaGreatDoorRT9
import Derived.Lib.Join
namespace Go.Proofs.YtokcllgekkhaaaaGreatDoor.P
open Go.RowKit Go.Proofs.YtokcllgekkhaaaaGreatDoorW.PrintWords Go.Proofs.YtokcllgekkhaaaaGreatDoorW.PrintLast Go.Proofs.YtokcllgekkhaaaaGreatDoorW.PrintMore
theorem alive45 : oculuslaw45_alive.f 60 = some true := by kernel_rfl
theorem ev_alive45 : Ev (fun k => oculuslaw45_alive.f k) true := Ev.of (fun k => oculuslaw45_alive.mono k) alive45
def lettersText (c : Int) : List UInt8 :=
  if c < 0 ∨ 702 ≤ c then [] else if c < 26 then [UInt8.ofNat (65 + c.toNat)] else [UInt8.ofNat (64 + c.toNat / 26), UInt8.ofNat (65 + c.toNat % 26)]
theorem letters_len (c : Int) : (lettersText c).length ≤ 2 := by
  unfold lettersText
  repeat (first | split | simp)
theorem nums1 {x : Int} {n : Nat} (h : x = (n : Int)) (hn : n < 256) : UInt8.ofNat (x % 256).toNat = UInt8.ofNat n := by
  subst h
  congr 1
  omega
theorem addr_letters (c : Int) : Ev (fun k => addr_Letters.f k c) (mkS (lettersText c)) := by
  unfold addr_Letters.f lettersText
  by_cases h0 : c < 0
  · refine ev_pos h0 (ev_succ (fun k => addr_Letters.j0.eq_2 ..) ?_)
    exact ev_pos rfl (ev_sub (ev_now _) (by rw [if_pos (.inl h0)]; rfl))
  · refine ev_neg h0 (ev_succ (fun k => addr_Letters.j0.eq_2 ..) ?_)
    by_cases h1 : 702 ≤ c
    · exact ev_pos (by simpa using h1) (ev_sub (ev_now _) (by rw [if_pos (.inr h1)]; rfl))
    · refine ev_neg (by simpa using h1) ?_
      have h3 : ¬ (c < 0 ∨ 702 ≤ c) := by omega
      by_cases h2 : c < 26
      · refine ev_pos h2 (ev_sub (ev_now _) ?_)
        rw [if_neg h3, if_pos h2, strOfNums_mkS, mkS_inj]
        simp only [List.map_cons, List.map_nil]
        rw [w64 (by omega) (by omega), nums1 (n := 65 + c.toNat) (by omega) (by omega)]
      · refine ev_neg h2 (ev_sub (ev_now _) ?_)
        rw [if_neg h3, if_neg h2, strOfNums_mkS, mkS_inj]
        simp only [List.map_cons, List.map_nil]
        rw [tdv (by omega), tmd (by omega), w64 (x := c / 26) (by omega) (by omega), w64 (x := 65 + c / 26) (by omega) (by omega), w64 (by omega) (by omega), w64 (by omega) (by omega), nums1 (n := 64 + c.toNat / 26) (by omega) (by omega), nums1 (n := 65 + c.toNat % 26) (by omega) (by omega)]
theorem ref03_letters (c : Int) : Ev (fun k => oculusref03_Letters.f k c) (mkS (lettersText c)) := by
  unfold oculusref03_Letters.f lettersText
  by_cases h0 : c < 0
  · refine ev_pos h0 (ev_succ (fun k => oculusref03_Letters.j0.eq_2 ..) ?_)
    exact ev_pos rfl (ev_sub (ev_now _) (by rw [if_pos (.inl h0)]; rfl))
  · refine ev_neg h0 (ev_succ (fun k => oculusref03_Letters.j0.eq_2 ..) ?_)
    by_cases h1 : 702 ≤ c
    · exact ev_pos (by simp; omega) (ev_sub (ev_now _) (by rw [if_pos (.inr h1)]; rfl))
    · refine ev_neg (by simp; omega) ?_
      have h3 : ¬ (c < 0 ∨ 702 ≤ c) := by omega
      by_cases h2 : c < 26
      · refine ev_pos h2 (ev_sub (ev_now _) ?_)
        rw [if_neg h3, if_pos h2, strOfNums_mkS, mkS_inj]
        simp only [List.map_cons, List.map_nil]
        rw [w64 (by omega) (by omega), nums1 (n := 65 + c.toNat) (by omega) (by omega)]
      · refine ev_neg h2 (ev_sub (ev_now _) ?_)
        rw [if_neg h3, if_neg h2, strOfNums_mkS, mkS_inj]
        simp only [List.map_cons, List.map_nil]
        rw [tdv (by omega), tmd (by omega), w64 (x := c / 26) (by omega) (by omega), w64 (by omega) (by omega), w64 (by omega) (by omega), nums1 (n := 64 + c.toNat / 26) (by omega) (by omega), nums1 (n := 65 + c.toNat % 26) (by omega) (by omega)]
def mayCell (r c : Int) : Bool := decide (0 ≤ r ∧ r ≤ 998 ∧ 0 ≤ c ∧ c ≤ 701)
theorem addr_may (r c : Int) : addr_May.f r c = some (mayCell r c) := by
  unfold addr_May.f mayCell
  repeat' split
  all_goals (congr 1; first | (rw [decide_eq_decide]; omega) | (symm; rw [decide_eq_false_iff_not]; omega))
theorem ref03_may (r c : Int) : oculusref03_May.f r c = some (mayCell r c) := by
  unfold oculusref03_May.f mayCell
  repeat' split
  all_goals (congr 1; first | (rw [decide_eq_decide]; omega) | (symm; rw [decide_eq_false_iff_not]; omega))
def nameText (r c : Int) : List UInt8 := if mayCell r c = true then lettersText c ++ Lib.decDigits (r + 1).toNat else []
theorem name_len (r c : Int) : (nameText r c).length ≤ 30 := by
  unfold nameText
  split
  · rename_i h
    unfold mayCell at h
    have h := of_decide_eq_true h
    have h1 := letters_len c
    have h2 := dec_len20 (r + 1).toNat (by omega)
    simp; omega
  · simp
theorem addr_name (r c : Int) : Ev (fun k => addr_Name.f k r c) (mkS (nameText r c)) := by
  unfold addr_Name.f nameText
  refine ev_eq (addr_may r c) ?_
  cases hm : mayCell r c
  · exact ev_neg (by simp) (ev_sub (ev_now _) (by simp [mkS]))
  · have h := of_decide_eq_true (show decide _ = true from hm)
    refine ev_pos rfl ?_
    refine ev_bind (f := fun k t => (strconv_Itoa.f (wrap64 (r + 1))).bind fun t154 => if t.size + t154.size ≤ 9223372036854775807 then some (t ++ t154) else none) (addr_letters c) ?_
    have hi : strconv_Itoa.f (wrap64 (r + 1)) = some (mkS (Lib.decDigits (r + 1).toNat)) := by
      rw [w64 (by omega) (by omega)]
      unfold strconv_Itoa.f
      rw [if_pos ⟨by omega, by omega⟩, itoa_nn (by omega)]
    refine ev_eq hi ?_
    have h1 := letters_len c
    have h2 := dec_len20 (r + 1).toNat (by omega)
    refine ev_pos (by rw [mkS_size, mkS_size]; omega) (ev_sub (ev_now _) ?_)
    rw [mkS_append]; simp
theorem ref03_name (r c : Int) : Ev (fun k => oculusref03_Name.f k r c) (mkS (nameText r c)) := by
  unfold oculusref03_Name.f nameText
  refine ev_eq (ref03_may r c) ?_
  cases hm : mayCell r c
  · exact ev_neg (by simp) (ev_sub (ev_now _) (by simp [mkS]))
  · have h := of_decide_eq_true (show decide _ = true from hm)
    refine ev_pos rfl ?_
    refine ev_bind (f := fun k t => (oculusref01_Digits.f k (wrap64 (r + 1))).bind fun t154 => if t.size + t154.size ≤ 9223372036854775807 then some (t ++ t154) else none) (ref03_letters c) ?_
    rw [w64 (by omega) (by omega)]
    refine ev_bind (f := fun k t154 => if (mkS (lettersText c)).size + t154.size ≤ 9223372036854775807 then some (mkS (lettersText c) ++ t154) else none) (ref01_digits (n := r + 1) (by omega) (by omega)) ?_
    have h1 := letters_len c
    have h2 := dec_len20 (r + 1).toNat (by omega)
    refine ev_pos (by rw [mkS_size, mkS_size]; omega) (ev_sub (ev_now _) ?_)
    rw [mkS_append]; simp
def rowText (r c : Int) (x : List UInt8) (hid : Bool) (k n : Int) (t : List UInt8) : List UInt8 :=
  nameText r c ++ [32] ++ x ++ [32, 61, 32] ++ (if hid = true then [63] else showText k n t)
theorem view_text (r c : Int) (x : ByteArray) (hid : Bool) (k n : Int) (t : ByteArray) (hx : x.size ≤ 300) (h0 : -9223372036854775808 ≤ n) (h1 : n ≤ 9223372036854775807) (hm : MayV k n t.data.toList) :
    Ev (fun q => view_Text.f q r c x hid k n t) (mkS (rowText r c x.data.toList hid k n t.data.toList)) := by
  unfold view_Text.f rowText
  have hn := name_len r c
  have hx2 : x.data.toList.length ≤ 300 := by rw [← size_data]; exact hx
  cases hid
  · refine ev_neg (by simp) ?_
    refine ev_bind (f := fun q t157 => (addr_Name.f q r c).bind fun t158 => (if t158.size + 1 ≤ 9223372036854775807 then (if (t158 ++ (⟨#[32]⟩ : ByteArray)).size + x.size ≤ 9223372036854775807 then (if ((t158 ++ (⟨#[32]⟩ : ByteArray)) ++ x).size + 3 ≤ 9223372036854775807 then (if (((t158 ++ (⟨#[32]⟩ : ByteArray)) ++ x) ++ (⟨#[32, 61, 32]⟩ : ByteArray)).size + t157.size ≤ 9223372036854775807 then (some ((((t158 ++ (⟨#[32]⟩ : ByteArray)) ++ x) ++ (⟨#[32, 61, 32]⟩ : ByteArray)) ++ t157)) else (none)) else (none)) else (none)) else (none))) (value_show k n t h1 hm) ?_
    refine ev_bind (f := fun q t158 => (if t158.size + 1 ≤ 9223372036854775807 then (if (t158 ++ (⟨#[32]⟩ : ByteArray)).size + x.size ≤ 9223372036854775807 then (if ((t158 ++ (⟨#[32]⟩ : ByteArray)) ++ x).size + 3 ≤ 9223372036854775807 then (if (((t158 ++ (⟨#[32]⟩ : ByteArray)) ++ x) ++ (⟨#[32, 61, 32]⟩ : ByteArray)).size + (mkS (showText k n t.data.toList)).size ≤ 9223372036854775807 then (some ((((t158 ++ (⟨#[32]⟩ : ByteArray)) ++ x) ++ (⟨#[32, 61, 32]⟩ : ByteArray)) ++ mkS (showText k n t.data.toList))) else (none)) else (none)) else (none)) else (none))) (addr_name r c) ?_
    have hs : (showText k n t.data.toList).length ≤ 600 := showText_len _ _ _ (by omega) (by rcases hm with ⟨_, h, _⟩ | ⟨_, h, _⟩ | ⟨_, _, h⟩ | ⟨_, h, _⟩ | ⟨_, h, _⟩ <;> first | omega | simp [h])
    simp only [lit_mkS, mkS_append, mkS_append_l, mkS_data, mkS_size, size_data x]
    refine ev_pos (by omega) (ev_pos (by simp; omega) (ev_pos (by simp; omega) (ev_pos (by simp; omega) (ev_sub (ev_now _) ?_))))
    simp
  · refine ev_pos rfl ?_
    refine ev_bind (f := fun q t156 => (if t156.size + 1 ≤ 9223372036854775807 then (if (t156 ++ (⟨#[32]⟩ : ByteArray)).size + x.size ≤ 9223372036854775807 then (if ((t156 ++ (⟨#[32]⟩ : ByteArray)) ++ x).size + 3 ≤ 9223372036854775807 then (if (((t156 ++ (⟨#[32]⟩ : ByteArray)) ++ x) ++ (⟨#[32, 61, 32]⟩ : ByteArray)).size + 1 ≤ 9223372036854775807 then (some ((((t156 ++ (⟨#[32]⟩ : ByteArray)) ++ x) ++ (⟨#[32, 61, 32]⟩ : ByteArray)) ++ (⟨#[63]⟩ : ByteArray))) else (none)) else (none)) else (none)) else (none))) (addr_name r c) ?_
    simp only [lit_mkS, mkS_append, mkS_append_l, mkS_data, mkS_size, size_data x]
    refine ev_pos (by omega) (ev_pos (by simp; omega) (ev_pos (by simp; omega) (ev_pos (by simp; omega) (ev_sub (ev_now _) ?_))))
    simp
theorem ref40_text (r c : Int) (x : ByteArray) (hid : Bool) (k n : Int) (t : ByteArray) (hx : x.size ≤ 300) (h0 : -9223372036854775808 ≤ n) (h1 : n ≤ 9223372036854775807) (hm : MayV k n t.data.toList) :
    Ev (fun q => oculusref40_Text.f q r c x hid k n t) (mkS (rowText r c x.data.toList hid k n t.data.toList)) := by
  unfold oculusref40_Text.f rowText
  have hn := name_len r c
  have hx2 : x.data.toList.length ≤ 300 := by rw [← size_data]; exact hx
  refine ev_bind (f := fun q t309 => (if t309.size + 1 ≤ 9223372036854775807 then (if (t309 ++ (⟨#[32]⟩ : ByteArray)).size + x.size ≤ 9223372036854775807 then (if ((t309 ++ (⟨#[32]⟩ : ByteArray)) ++ x).size + 3 ≤ 9223372036854775807 then (if hid = true then (if (((t309 ++ (⟨#[32]⟩ : ByteArray)) ++ x) ++ (⟨#[32, 61, 32]⟩ : ByteArray)).size + 1 ≤ 9223372036854775807 then (some ((((t309 ++ (⟨#[32]⟩ : ByteArray)) ++ x) ++ (⟨#[32, 61, 32]⟩ : ByteArray)) ++ (⟨#[63]⟩ : ByteArray))) else (none)) else ((oculusref12_Show.f q k n t).bind fun t310 => (if (((t309 ++ (⟨#[32]⟩ : ByteArray)) ++ x) ++ (⟨#[32, 61, 32]⟩ : ByteArray)).size + t310.size ≤ 9223372036854775807 then (some ((((t309 ++ (⟨#[32]⟩ : ByteArray)) ++ x) ++ (⟨#[32, 61, 32]⟩ : ByteArray)) ++ t310)) else (none)))) else (none)) else (none)) else (none))) (ref03_name r c) ?_
  simp only [lit_mkS, mkS_append, mkS_append_l, mkS_data, mkS_size, size_data x]
  refine ev_pos (by omega) (ev_pos (by simp; omega) (ev_pos (by simp; omega) ?_))
  cases hid
  · refine ev_neg (by simp) ?_
    have hs : (showText k n t.data.toList).length ≤ 600 := showText_len _ _ _ (by omega) (by rcases hm with ⟨_, h, _⟩ | ⟨_, h, _⟩ | ⟨_, _, h⟩ | ⟨_, h, _⟩ | ⟨_, h, _⟩ <;> first | omega | simp [h])
    refine ev_bind (f := fun q t310 => if (nameText r c ++ [32] ++ x.data.toList ++ [32, 61, 32]).length + ByteArray.size t310 ≤ 9223372036854775807 then some (mkS (nameText r c ++ [32] ++ x.data.toList ++ [32, 61, 32] ++ t310.data.toList)) else none) (ref12_show k n t h1 hm) ?_
    rw [mkS_size, mkS_data]
    refine ev_pos (by simp; omega) (ev_sub (ev_now _) ?_)
    simp
  · refine ev_pos rfl ?_
    refine ev_pos (by simp; omega) (ev_sub (ev_now _) ?_)
    simp
end Go.Proofs.YtokcllgekkhaaaaGreatDoor.P
namespace Go.Proofs.YtokcllgekkhaaaaGreatDoor.P
open Go.RowKit Go.Proofs.YtokcllgekkhaaaaGreatDoorW.PrintWords Go.Proofs.YtokcllgekkhaaaaGreatDoorW.PrintLast Go.Proofs.YtokcllgekkhaaaaGreatDoorW.PrintMore
def rowOf (x : S61) : List UInt8 := rowText x.f0.f0 x.f0.f1 x.f1.data.toList x.f2 x.f3.f0 x.f3.f1 x.f3.f2.data.toList
def numOk (x : S61) : Prop := -9223372036854775808 ≤ x.f3.f1 ∧ x.f3.f1 ≤ 9223372036854775807
def goodRow (x : S61) : Prop := x.f1.size ≤ 300 ∧ MayV x.f3.f0 x.f3.f1 x.f3.f2.data.toList
theorem rd_at (l : List S61) (j : Nat) (h : j < l.length) : rd_T61 l (j : Int) = l[j] := by
  unfold rd_T61
  rw [Int.toNat_natCast, List.getD_eq_getElem?_getD, List.getElem?_eq_getElem h]; rfl
theorem may_iff (k n : Int) (t : ByteArray) : ref12_May.f k n t = some true ↔ MayV k n t.data.toList := by
  unfold ref12_May.f MayV
  rw [Option.some.injEq, decide_eq_true_eq, toList_data, size_data]
instance (k n : Int) (t : List UInt8) : Decidable (MayV k n t) := by unfold MayV; infer_instance
theorem small_loop (l : List S61) (d : Nat) : ∀ i : Nat, i + d = l.length → l.length ≤ 100 →
    ∃ b, Ev (fun k => oculuslaw45_small.l0 k l (l.length : Int) (i : Int)) b ∧ (b = true → ∀ j (h : j < l.length), i ≤ j → goodRow l[j]) := by
  induction d with
  | zero =>
    intro i hi hl
    refine ⟨true, ev_succ (fun k => oculuslaw45_small.l0.eq_2 ..) (ev_neg (by omega) (ev_now _)), fun _ j h hj => by omega⟩
  | succ d ih =>
    intro i hi hl
    obtain ⟨b, hb, hg⟩ := ih (i + 1) (by omega) hl
    have hlt : i < l.length := by omega
    have step : ∀ R, Ev (fun k => (ref12_May.f l[i].f3.f0 l[i].f3.f1 l[i].f3.f2).bind fun t102 => if t102 = true then (if ((l[i].f1).size : Int) > 300 then some false else oculuslaw45_small.l0 k l (l.length : Int) ((i + 1 : Nat) : Int)) else some false) R → Ev (fun k => oculuslaw45_small.l0 k l (l.length : Int) (i : Int)) R := by
      intro R hR
      refine ev_succ (fun k => oculuslaw45_small.l0.eq_2 ..) (ev_pos (by omega) (ev_pos (by omega) (ev_pos (by omega) ?_)))
      rw [rd_at l i hlt, show wrap64 ((i : Int) + 1) = ((i + 1 : Nat) : Int) by rw [w64] <;> omega]
      exact hR
    cases hm : decide (MayV l[i].f3.f0 l[i].f3.f1 l[i].f3.f2.data.toList) with
    | false =>
      refine ⟨false, step _ (ev_eq (a := false) ?_ (ev_neg (by simp) (ev_now _))), fun h => by cases h⟩
      have := may_iff l[i].f3.f0 l[i].f3.f1 l[i].f3.f2
      have h2 := of_decide_eq_false hm
      unfold ref12_May.f at this ⊢
      rw [← this] at h2
      simp only [Option.some.injEq] at h2 ⊢
      simpa using h2
    | true =>
      have h2 := of_decide_eq_true hm
      by_cases hs : ((l[i].f1).size : Int) > 300
      · exact ⟨false, step _ (ev_eq (a := true) ((may_iff ..).2 h2) (ev_pos rfl (ev_pos hs (ev_now _)))), fun h => by cases h⟩
      · refine ⟨b, step _ (ev_eq (a := true) ((may_iff ..).2 h2) (ev_pos rfl (ev_neg hs hb))), fun h j hj hij => ?_⟩
        rcases Nat.eq_or_lt_of_le hij with rfl | hlt2
        · exact ⟨by omega, h2⟩
        · exact hg h j hj (by omega)
theorem small_is (l : List S61) : ∃ b, Ev (fun k => oculuslaw45_small.f k l) b ∧ (b = true → l.length ≤ 100 ∧ ∀ j (h : j < l.length), goodRow l[j]) := by
  unfold oculuslaw45_small.f
  by_cases h : (l.length : Int) > 100
  · exact ⟨false, ev_pos h (ev_now _), fun h => by cases h⟩
  · obtain ⟨b, hb, hg⟩ := small_loop l l.length 0 (by omega) (by omega)
    exact ⟨b, ev_neg h hb, fun e => ⟨by omega, fun j hj => hg e j hj (by omega)⟩⟩
theorem rowOf_len (x : S61) (h : goodRow x) (hn : numOk x) : (rowOf x).length ≤ 2000 := by
  obtain ⟨h1, hm⟩ := h
  unfold rowOf rowText
  have h2 := name_len x.f0.f0 x.f0.f1
  have hs : (showText x.f3.f0 x.f3.f1 x.f3.f2.data.toList).length ≤ 600 := showText_len _ _ _ (by unfold numOk at hn; omega) (by rcases hm with ⟨_, h, _⟩ | ⟨_, h, _⟩ | ⟨_, _, h⟩ | ⟨_, h, _⟩ | ⟨_, h, _⟩ <;> first | omega | simp [h])
  rw [size_data] at h1
  simp only [List.length_append]
  split <;> simp <;> simp at h1 hs <;> omega
theorem count_text (n : Int) (h0 : 0 ≤ n) (h1 : n ≤ 1000000000) : Ev (fun k => reply_count.f k n) (mkS (Lib.decDigits n.toNat)) := by
  unfold reply_count.f
  rw [w64 (by omega) (by omega)]
  refine ev_bind (f := fun _ t143 => some t143) (digits_text (n * 10000) (by omega) (by omega)) (ev_sub (ev_now _) ?_)
  rw [mkS_inj]
  unfold decText
  rw [if_neg (by omega), if_neg (by omega), if_pos (by omega)]
  simp
  congr 1
  omega
def tailOf (l : List S61) : List UInt8 := (l.map fun x => 10 :: rowOf x).flatten
theorem tailOf_len (l : List S61) (h : ∀ x ∈ l, (rowOf x).length ≤ 2000) : (tailOf l).length ≤ 2001 * l.length := by
  induction l with
  | nil => simp [tailOf]
  | cons x l ih =>
    have h1 := h x (by simp)
    have h2 := ih fun y hy => h y (by simp [hy])
    simp [tailOf] at h2 ⊢
    omega
theorem tailOf_drop (l : List S61) (i : Nat) (h : i < l.length) : tailOf (l.drop i) = 10 :: rowOf l[i] ++ tailOf (l.drop (i + 1)) := by
  unfold tailOf
  rw [List.drop_eq_getElem_cons h, List.map_cons, List.flatten_cons]
theorem view_loop (l : List S61) (hl : l.length ≤ 100) (hg : ∀ x ∈ l, goodRow x ∧ numOk x) (x0 : List UInt8) (hx0 : x0.length ≤ 1000) (d : Nat) : ∀ (i : Nat) (ys : List (List UInt8)), i + d = l.length → ys.length = i → ys = (l.take i).map rowOf →
    Ev (fun k => reply_View.l0 k ((x0 :: ys).map mkS) l (l.length : Int) (i : Int)) (mkS (x0 ++ tailOf l)) := by
  induction d with
  | zero =>
    intro i ys hi hy hys
    refine ev_succ (fun k => reply_View.l0.eq_2 ..) (ev_neg (by omega) ?_)
    have e1 : (((x0 :: ys).map mkS).map (·.data.toList)) = x0 :: ys := by
      rw [List.map_map]
      conv => rhs; rw [← List.map_id (x0 :: ys)]
      rfl
    have e2 : Lib.join (x0 :: ys) [10] = x0 ++ tailOf l := by
      rw [Lib.join_cons, hys, List.take_of_length_le (by omega)]
      unfold Lib.joinTail tailOf
      rw [List.map_map]
      rfl
    have e3 := tailOf_len l (fun x hx => rowOf_len x (hg x hx).1 (hg x hx).2)
    have e4 : strings_Join.f ((x0 :: ys).map mkS) (⟨#[10]⟩ : ByteArray) = some (mkS (x0 ++ tailOf l)) := by
      unfold strings_Join.f
      rw [e1, show (⟨#[10]⟩ : ByteArray).data.toList = [10] from rfl, e2, if_pos ⟨by simp; omega, by simp; omega⟩]
    exact ev_eq e4 (ev_now _)
  | succ d ih =>
    intro i ys hi hy hys
    have hlt : i < l.length := by omega
    obtain ⟨⟨g1, g2⟩, g3⟩ := hg l[i] (by simp)
    refine ev_succ (fun k => reply_View.l0.eq_2 ..) (ev_pos (by omega) (ev_pos (by omega) (ev_pos (by omega) ?_)))
    rw [rd_at l i hlt, show wrap64 ((i : Int) + 1) = ((i + 1 : Nat) : Int) by rw [w64] <;> omega]
    refine ev_bind (f := fun k t165 => if ((x0 :: ys).map mkS).length < 8796093022208 then reply_View.l0 k ((x0 :: ys).map mkS ++ [t165]) l (l.length : Int) ((i + 1 : Nat) : Int) else none) (view_text l[i].f0.f0 l[i].f0.f1 l[i].f1 l[i].f2 l[i].f3.f0 l[i].f3.f1 l[i].f3.f2 g1 g3.1 g3.2 g2) ?_
    refine ev_pos (by simp; omega) ?_
    have e : (x0 :: ys).map mkS ++ [mkS (rowText l[i].f0.f0 l[i].f0.f1 l[i].f1.data.toList l[i].f2 l[i].f3.f0 l[i].f3.f1 l[i].f3.f2.data.toList)] = (x0 :: (ys ++ [rowOf l[i]])).map mkS := by simp [rowOf]
    rw [e]
    refine ih (i + 1) _ (by omega) (by simp [hy]) ?_
    rw [List.take_succ_eq_append_getElem hlt, hys, List.map_append]; rfl
theorem ref_view_loop (l : List S61) (hl : l.length ≤ 100) (hg : ∀ x ∈ l, goodRow x ∧ numOk x) (d : Nat) : ∀ (i : Nat) (acc : List UInt8), i + d = l.length → acc.length ≤ 1000 + 2001 * i →
    Ev (fun k => oculusref45_View.l0 k l (mkS acc) (i : Int)) (mkS (acc ++ tailOf (l.drop i))) := by
  induction d with
  | zero =>
    intro i acc hi ha
    refine ev_succ (fun k => oculusref45_View.l0.eq_2 ..) (ev_neg (by omega) (ev_sub (ev_now _) ?_))
    rw [List.drop_of_length_le (by omega)]; simp [tailOf]
  | succ d ih =>
    intro i acc hi ha
    have hlt : i < l.length := by omega
    obtain ⟨⟨g1, g2⟩, g3⟩ := hg l[i] (by simp)
    refine ev_succ (fun k => oculusref45_View.l0.eq_2 ..) (ev_pos (by omega) (ev_pos (by rw [mkS_size]; omega) (ev_pos (by omega) ?_)))
    rw [rd_at l i hlt, show wrap64 ((i : Int) + 1) = ((i + 1 : Nat) : Int) by rw [w64] <;> omega]
    refine ev_bind (f := fun k t313 => if (mkS acc ++ (⟨#[10]⟩ : ByteArray)).size + t313.size ≤ 9223372036854775807 then oculusref45_View.l0 k l ((mkS acc ++ (⟨#[10]⟩ : ByteArray)) ++ t313) ((i + 1 : Nat) : Int) else none) (ref40_text l[i].f0.f0 l[i].f0.f1 l[i].f1 l[i].f2 l[i].f3.f0 l[i].f3.f1 l[i].f3.f2 g1 g3.1 g3.2 g2) ?_
    have hr := rowOf_len l[i] ⟨g1, g2⟩ g3
    unfold rowOf at hr
    simp only [lit_mkS, mkS_append, mkS_size]
    refine ev_pos (by simp; omega) ?_
    refine ev_sub (ih (i + 1) _ (by omega) (by simp; omega)) ?_
    rw [tailOf_drop l i hlt]
    simp [rowOf]
def viewBytes (l : List S61) : List UInt8 := [118, 105, 101, 119, 32] ++ Lib.decDigits l.length ++ tailOf l
theorem reply_view (l : List S61) (hl : l.length ≤ 100) (hg : ∀ x ∈ l, goodRow x ∧ numOk x) : Ev (fun k => reply_View.f k l) (mkS (viewBytes l)) := by
  unfold reply_View.f
  refine ev_bind (f := fun k t159 => if 5 + t159.size ≤ 9223372036854775807 then reply_View.l0 k ([(⟨#[118, 105, 101, 119, 32]⟩ : ByteArray) ++ t159]) l (l.length : Int) 0 else none) (count_text (l.length : Int) (by omega) (by omega)) ?_
  rw [Int.toNat_natCast]
  have h := dec_len20 l.length (by omega)
  simp only [lit_mkS, mkS_append, mkS_size]
  refine ev_pos (by omega) ?_
  exact view_loop l hl hg ([118, 105, 101, 119, 32] ++ Lib.decDigits l.length) (by simp; omega) l.length 0 [] (by omega) rfl (by simp)
theorem ref_view (l : List S61) (hl : l.length ≤ 100) (hg : ∀ x ∈ l, goodRow x ∧ numOk x) : Ev (fun k => oculusref45_View.f k l) (mkS (viewBytes l)) := by
  unfold oculusref45_View.f
  refine ev_bind (f := fun k t311 => if 5 + t311.size ≤ 9223372036854775807 then oculusref45_View.l0 k l ((⟨#[118, 105, 101, 119, 32]⟩ : ByteArray) ++ t311) 0 else none) (ref01_digits (n := (l.length : Int)) (by omega) (by omega)) ?_
  rw [Int.toNat_natCast]
  have h := dec_len20 l.length (by omega)
  simp only [lit_mkS, mkS_append, mkS_size]
  refine ev_pos (by omega) ?_
  exact ref_view_loop l hl hg l.length 0 _ (by omega) (by simp; omega)
end Go.Proofs.YtokcllgekkhaaaaGreatDoor.P
