/- WHAT IS TOLD OF ERRORS AND COSTS IS READ BACK, AND ONLY WHAT IS TOLD IS READ: of any error, any cost, and any text. -/
import Derived.Test.YtaljjdodjimgdaaGreatDoorRB7
import Derived.Lib.AppendIntMem
namespace Go.Proofs.YtaljjdodjimgdaaGreatDoor.P
open Go.RowKit Go.Sort Go.Lib Go.Proofs.YtaljjdodjimgdaaGreatDoorW.PrintWords Go.Proofs.YtaljjdodjimgdaaGreatDoorW.PrintLast
def mkS (l : List UInt8) : ByteArray := ⟨l.toArray⟩
theorem below_of_drewN {w w' : World} (h : ∃ n, w' = w.drewN n) : Below w.heap.size w w' := by
  obtain ⟨n, rfl⟩ := h
  exact pw_below_drewN (Below.refl _ _) n
theorem below_of_grow {w w' : World} (h : ∃ k os, w' = grow (w.drewN k) os) : Below w.heap.size w w' := by
  obtain ⟨k, os, rfl⟩ := h
  exact ⟨rfl, rfl, rfl, by show w.heap.size ≤ (w.heap ++ os).size; rw [Array.size_append]; omega, fun j hj => Lib.heap_grow_old w k os j (by omega)⟩
theorem below_of_eq {w w' : World} (h : w' = w) : Below w.heap.size w w' := h ▸ Below.refl _ _
def strings_Cut.f (a0 a1 : ByteArray) : Option (ByteArray × ByteArray × Bool) :=
  if a0.size < 4294967281 then some (mkS (Lib.cut a0.data.toList a1.data.toList).1, mkS (Lib.cut a0.data.toList a1.data.toList).2.1, (Lib.cut a0.data.toList a1.data.toList).2.2) else none
theorem strings_Cut.calls (a0 a1 : ByteArray) (r1 r2 : ByteArray) (r3 : Bool) (w : World) (hG : GInv w) (h : strings_Cut.f a0 a1 = some (r1, r2, r3)) :
    Calls Tryz.prog 56 #[.string a0, .string a1] w fun e w' => e = .returned (.tuple #[.string r1, .string r2, .bool r3]) ∧ Below w.heap.size w w' := by
  unfold strings_Cut.f at h
  split at h
  · rename_i hs
    simp only [Option.some.injEq, Prod.mk.injEq] at h
    obtain ⟨rfl, rfl, rfl⟩ := h
    obtain ⟨m, hm⟩ := hG.len
    exact (Tryz.strings_Cut a0 a1 m w hs hm).mono fun e w' ⟨he, hw⟩ => ⟨he, below_of_drewN hw⟩
  · cases h
def strings_ReplaceAll.f (a0 a1 a2 : ByteArray) : Option ByteArray :=
  if a0.size < 4294967281 ∧ 1 ≤ a1.size ∧ a0.size + Lib.countB a0 a1 * a2.size ≤ 140737488355328 then some (mkS (Lib.replaceAll a0.data.toList a1.data.toList a2.data.toList)) else none
theorem strings_ReplaceAll.calls (a0 a1 a2 : ByteArray) (r : ByteArray) (w : World) (hG : GInv w) (h : strings_ReplaceAll.f a0 a1 a2 = some r) :
    Calls Tryz.prog 67 #[.string a0, .string a1, .string a2] w fun e w' => e = .returned (.string r) ∧ Below w.heap.size w w' := by
  unfold strings_ReplaceAll.f at h
  split at h
  · rename_i hs
    obtain rfl := Option.some.inj h
    obtain ⟨m, hm⟩ := hG.len
    exact Tryz.strings_ReplaceAll a0 a1 a2 m w hs.1 hm hs.2.1 hs.2.2
  · cases h
def strconv_FormatInt.f (a0 a1 : Int) : Option ByteArray := if -9223372036854775808 ≤ a0 ∧ a0 ≤ 9223372036854775807 ∧ a1 = 10 then some (mkS (Lib.itoa a0)) else none
theorem strconv_FormatInt.calls (a0 a1 : Int) (r : ByteArray) (w : World) (hG : GInv w) (h : strconv_FormatInt.f a0 a1 = some r) :
    Calls Tryz.prog 52 #[.int .i64 a0, .int .i64 a1] w fun e w' => e = .returned (.string r) ∧ Below w.heap.size w w' := by
  unfold strconv_FormatInt.f at h
  split at h
  · rename_i hs
    obtain rfl := Option.some.inj h
    obtain ⟨h0, h1, rfl⟩ := hs
    exact (Tryz.strconv_FormatInt_10 a0 h0 h1 w hG.tab).mono fun e w' ⟨he, hw⟩ => ⟨he, below_of_grow hw⟩
  · cases h
def strconv_Itoa.f (a0 : Int) : Option ByteArray := if -9223372036854775808 ≤ a0 ∧ a0 ≤ 9223372036854775807 then some (mkS (Lib.itoa a0)) else none
theorem strconv_Itoa.calls (a0 : Int) (r : ByteArray) (w : World) (hG : GInv w) (h : strconv_Itoa.f a0 = some r) :
    Calls Tryz.prog 64 #[.int .i64 a0] w fun e w' => e = .returned (.string r) ∧ Below w.heap.size w w' := by
  unfold strconv_Itoa.f at h
  split at h
  · rename_i hs
    obtain rfl := Option.some.inj h
    exact (Tryz.strconv_Itoa a0 hs.1 hs.2 w hG.tab).mono fun e w' ⟨he, hw⟩ => ⟨he, below_of_grow hw⟩
  · cases h
def strings_TrimRight.f (a0 a1 : ByteArray) : Option ByteArray := if a1 = ⟨#[48]⟩ ∧ a0.size ≤ 9223372036854775807 then some (mkS (Lib.trimRightB a0.data.toList 48)) else none
theorem strings_TrimRight.calls (a0 a1 : ByteArray) (r : ByteArray) (w : World) (_hG : GInv w) (h : strings_TrimRight.f a0 a1 = some r) :
    Calls Tryz.prog 54 #[.string a0, .string a1] w fun e w' => e = .returned (.string r) ∧ Below w.heap.size w w' := by
  unfold strings_TrimRight.f at h
  split at h
  · rename_i hs
    obtain rfl := Option.some.inj h
    obtain ⟨rfl, h1⟩ := hs
    exact (Tryz.strings_TrimRight_one a0 48 (by decide) w h1).mono fun e w' ⟨he, hw⟩ => ⟨he, below_of_eq hw⟩
  · cases h
def strings_Join.f (l0 : List ByteArray) (a1 : ByteArray) : Option ByteArray :=
  if l0.length ≤ 140737488355328 ∧ (Lib.join (l0.map (·.data.toList)) a1.data.toList).length ≤ 140737488355328 then some (mkS (Lib.join (l0.map (·.data.toList)) a1.data.toList)) else none
theorem strs_cells {w : World} {A : Option Addr} {l : List ByteArray} (h : Kd.C Kd.string w A l.length l) (h0 : 0 < l.length) : ∃ b o, A = some ⟨b, o, none⟩ ∧ b < w.heap.size ∧ ∀ (j : Nat) x, l[j]? = some x → w.cell? ⟨b, o + j, none⟩ = some (.string x) := by
  obtain ⟨ad, e, hc⟩ := Kd.at_string h 0 (by omega) (by omega)
  subst e
  have hs : ad.spot = none := by
    have : (0 : Int).toNat = 0 := rfl
    rw [this] at hc
    unfold Addr.add at hc
    simp only [if_true] at hc
    unfold World.cell? at hc
    split at hc
    · split at hc
      · cases hc
      · rename_i h1
        cases hsp : ad.spot with
        | none => rfl
        | some _ => rw [hsp] at h1; exact absurd rfl h1
    · cases hc
  obtain ⟨b, o, sp⟩ := ad
  obtain rfl : sp = none := hs
  refine ⟨b, o, rfl, ?_, fun j x hj => ?_⟩
  · have := World.block_lt_of_cell? w _ hc
    simpa [Addr.add] using this
  · have hl : j < l.length := (List.getElem?_eq_some_iff.1 hj).1
    obtain ⟨ad, e, hc⟩ := Kd.at_string h (j : Int) (by omega) (by omega)
    obtain rfl := (Option.some.inj e)
    have e1 : (⟨b, o, none⟩ : Addr).add ((j : Int)).toNat = ⟨b, o + j, none⟩ := by
      unfold Addr.add
      have : ((j : Int)).toNat = j := by omega
      rw [this]
      split
      · rename_i hz; subst hz; rfl
      · rfl
    rw [e1] at hc
    rw [hc]
    simp [rdOf, List.getD_eq_getElem?_getD, hj]
theorem strings_Join.calls (A0 : Option Addr) (c0 : Nat) (l0 : List ByteArray) (a1 : ByteArray) (r : ByteArray) (w : World) (hr0 : Kd.C Kd.string w A0 l0.length l0) (hc0 : l0.length ≤ c0) (_hG : GInv w) (h : strings_Join.f l0 a1 = some r) :
    Calls Tryz.prog 31 #[.slice A0 l0.length c0, .string a1] w fun e w' => e = .returned (.string r) ∧ Below w.heap.size w w' := by
  unfold strings_Join.f at h
  split at h
  · rename_i hs
    obtain rfl := Option.some.inj h
    rcases Nat.eq_zero_or_pos l0.length with h0 | h0
    · obtain rfl := List.eq_nil_of_length_eq_zero h0
      exact (Tryz.strings_Join_none A0 c0 a1 w).mono fun e w' ⟨he, hw⟩ => ⟨he, below_of_eq hw⟩
    · obtain ⟨b, o, rfl, hb, hcells⟩ := strs_cells hr0 h0
      exact Tryz.strings_Join b o c0 l0 a1 w hcells hb hs.1 hc0 hs.2
  · cases h
def strings_CutPrefix.f (a0 a1 : ByteArray) : Option (ByteArray × Bool) := some (mkS (Lib.trimPrefix a0.data.toList a1.data.toList), Lib.hasPrefix a0.data.toList a1.data.toList)
theorem strings_CutPrefix.calls (a0 a1 : ByteArray) (r1 : ByteArray) (r2 : Bool) (w : World) (h : strings_CutPrefix.f a0 a1 = some (r1, r2)) :
    Calls Tryz.prog 20 #[.string a0, .string a1] w fun e w' => e = .returned (.tuple #[.string r1, .bool r2]) ∧ Below w.heap.size w w' := by
  simp only [strings_CutPrefix.f, Option.some.injEq, Prod.mk.injEq] at h
  obtain ⟨rfl, rfl⟩ := h
  exact (Tryz.strings_CutPrefix a0 a1 w).mono fun e w' ⟨he, hw⟩ => ⟨he, below_of_eq hw⟩
def bits_Mul64.f (a0 a1 : Int) : Option (Int × Int) := if 0 ≤ a0 ∧ a0 ≤ 18446744073709551615 ∧ 0 ≤ a1 ∧ a1 ≤ 18446744073709551615 then some (a0 * a1 / 18446744073709551616, a0 * a1 % 18446744073709551616) else none
theorem bits_Mul64.calls (a0 a1 : Int) (r1 r2 : Int) (w : World) (h : bits_Mul64.f a0 a1 = some (r1, r2)) :
    Calls Tryz.prog 97 #[.int .u64 a0, .int .u64 a1] w fun e w' => e = .returned (.tuple #[.int .u64 r1, .int .u64 r2]) ∧ Below w.heap.size w w' := by
  unfold bits_Mul64.f at h
  split at h
  · rename_i hs
    obtain ⟨h1, h2, h3, h4⟩ := hs
    obtain ⟨x, rfl⟩ := Int.eq_ofNat_of_zero_le h1
    obtain ⟨y, rfl⟩ := Int.eq_ofNat_of_zero_le h3
    have h5 := Option.some.inj h
    obtain rfl : _ = r1 := congrArg Prod.fst h5
    obtain rfl : _ = r2 := congrArg Prod.snd h5
    refine (Tryz.bits_Mul64 x y (by omega) (by omega) w).mono fun e w' ⟨he, hw⟩ => ⟨?_, below_of_eq hw⟩
    rw [he, ← Int.natCast_mul]
    rfl
  · cases h
end Go.Proofs.YtaljjdodjimgdaaGreatDoor.P
namespace Go.Proofs.YtaljjdodjimgdaaGreatDoor.P
open Go.RowKit Go.Proofs.YtaljjdodjimgdaaGreatDoorW.PrintWords Go.Proofs.YtaljjdodjimgdaaGreatDoorW.PrintLast Go.Proofs.YtaljjdodjimgdaaGreatDoorW.PrintMore
theorem toList_data (s : ByteArray) : s.toList = s.data.toList := ByteArray.toList_eq s
theorem mkS_data (l : List UInt8) : (mkS l).data.toList = l := rfl
theorem mkS_toList (l : List UInt8) : (mkS l).toList = l := by rw [toList_data]; rfl
theorem mkS_size (l : List UInt8) : (mkS l).size = l.length := rfl
theorem size_data (s : ByteArray) : s.size = s.data.toList.length := by rw [Array.length_toList]; rfl
theorem mkS_of (s : ByteArray) : mkS s.data.toList = s := rfl
theorem bytes_ext {a b : ByteArray} (h : a.data.toList = b.data.toList) : a = b := by
  rw [← mkS_of a, ← mkS_of b, h]
theorem mkS_append (a b : List UInt8) : mkS a ++ mkS b = mkS (a ++ b) := by
  apply bytes_ext
  simp [mkS]
theorem lit_mkS (a : Array UInt8) : (⟨a⟩ : ByteArray) = mkS a.toList := rfl
theorem strOfNums_mkS (xs : List Int) : strOfNums xs = mkS (xs.map fun n => UInt8.ofNat n.toNat) := rfl
theorem mkS_extract (l : List UInt8) (i j : Nat) : (mkS l).extract i j = mkS ((l.take j).drop i) := by
  apply bytes_ext
  rw [ByteArray.data_extract]
  simp [mkS, List.drop_take]
theorem mkS_inj {a b : List UInt8} : mkS a = mkS b ↔ a = b := ⟨fun h => by have := congrArg (fun s : ByteArray => s.data.toList) h; exact this, fun h => h ▸ rfl⟩
theorem ev_now {α : Type} (r : α) : Ev (fun _ => some r) r := ⟨0, fun _ _ => rfl⟩
theorem ev_succ {α : Type} {g f : Nat → Option α} {r : α} (hg : ∀ k, g (k + 1) = f k) (h : Ev f r) : Ev g r := Ev.step hg h
theorem ev_bind {α β : Type} {g : Nat → Option α} {f : Nat → α → Option β} {a : α} {r : β} (h : Ev g a) (k : Ev (fun n => f n a) r) : Ev (fun n => (g n).bind (f n)) r := Ev.bind h k
theorem ev_pos {α : Type} {c : Prop} [Decidable c] {f g : Nat → Option α} {r : α} (hc : c) (h : Ev f r) : Ev (fun k => if c then f k else g k) r := by
  obtain ⟨K, h⟩ := h
  exact ⟨K, fun k hk => by simp only [if_pos hc]; exact h k hk⟩
theorem ev_neg {α : Type} {c : Prop} [Decidable c] {f g : Nat → Option α} {r : α} (hc : ¬ c) (h : Ev g r) : Ev (fun k => if c then f k else g k) r := by
  obtain ⟨K, h⟩ := h
  exact ⟨K, fun k hk => by simp only [if_neg hc]; exact h k hk⟩
theorem ev_some {α β : Type} {a : α} {f : Nat → α → Option β} {r : β} (k : Ev (fun n => f n a) r) : Ev (fun n => (some a).bind (f n)) r := k
theorem ev_eq {α β : Type} {x : Option α} {a : α} {f : Nat → α → Option β} {r : β} (hx : x = some a) (k : Ev (fun n => f n a) r) : Ev (fun n => x.bind (f n)) r := by subst hx; exact k
theorem ev_sub {α : Type} {g : Nat → Option α} {r r' : α} (h : Ev g r) (e : r = r') : Ev g r' := e ▸ h
theorem tdv {a b : Int} (h : 0 ≤ a) : Int.tdiv a b = a / b := Int.tdiv_eq_ediv_of_nonneg h
theorem tmd {a b : Int} (h : 0 ≤ a) : Int.tmod a b = a % b := Int.tmod_eq_emod_of_nonneg h
theorem w64 {x : Int} (h0 : -9223372036854775808 ≤ x) (h1 : x ≤ 9223372036854775807) : wrap64 x = x := by unfold wrap64; omega
theorem u64w {x : Int} (h0 : 0 ≤ x) (h1 : x ≤ 18446744073709551615) : IntKind.u64.wrap x = x := by
  show x % 18446744073709551616 = x
  omega
end Go.Proofs.YtaljjdodjimgdaaGreatDoor.P
namespace Go.Proofs.YtaljjdodjimgdaaGreatDoor.P
open Go.RowKit Go.Proofs.YtaljjdodjimgdaaGreatDoorW.PrintWords Go.Proofs.YtaljjdodjimgdaaGreatDoorW.PrintLast Go.Proofs.YtaljjdodjimgdaaGreatDoorW.PrintMore
attribute [local go_sem] max2_int min2_int max_two min_two max_three min_three max_four min_four
set_option linter.unusedVariables false
set_option linter.unusedSimpArgs false
def oculusref01_Digits.l0 : Nat → Int → ByteArray → Option (ByteArray)
 | 0, _, _ => none
 | k + 1, x0, x3 => if x0 > 0 then ((some (([(wrap64 (48 + (Int.tmod x0 10))) % 256] : List Int) : List Int)).bind fun y253 => (if (strOfNums y253).size + x3.size ≤ 9223372036854775807 then (oculusref01_Digits.l0 k (wrap64 (Int.tdiv x0 10)) ((strOfNums y253) ++ x3)) else (none))) else (some x3)
def oculusref01_Digits.f (k : Nat) (a0 : Int) : Option (ByteArray) := oculusref01_Digits.l0 k (wrap64 (Int.tdiv a0 10)) (strOfNums (([(wrap64 (48 + (Int.tmod a0 10))) % 256] : List Int)))
theorem oculusref01_Digits.mono_l : ∀ k, (∀ y0 y1, LeO (oculusref01_Digits.l0 k y0 y1) (oculusref01_Digits.l0 (k + 1) y0 y1))
 | 0 => fun _ _ r h => by simp [oculusref01_Digits.l0] at h
 | k + 1 => by
  have ih0 := oculusref01_Digits.mono_l k
  ·intro y0 y1
   unfold oculusref01_Digits.l0
   repeat' first
   | (with_reducible exact ih0 _ _)
   | (with_reducible exact LeO.refl _)
   | (with_reducible exact LeO.none _)
   | (with_reducible refine LeO.ite ?_ ?_)
   | (with_reducible refine LeO.bind ?_ (fun _ => ?_))
   | exact ih0 _ _
   | exact LeO.none _
   | refine LeO.ite ?_ ?_
   | refine LeO.bind ?_ (fun _ => ?_)
theorem oculusref01_Digits.mono : ∀ a0 k, LeO (oculusref01_Digits.f k a0) (oculusref01_Digits.f (k + 1) a0) := by
 intro a0 k
 have ih0 := oculusref01_Digits.mono_l k
 unfold oculusref01_Digits.f
 repeat' first
   | (with_reducible exact ih0 _ _)
   | (with_reducible exact LeO.refl _)
   | (with_reducible exact LeO.none _)
   | (with_reducible refine LeO.ite ?_ ?_)
   | (with_reducible refine LeO.bind ?_ (fun _ => ?_))
   | exact ih0 _ _
   | exact LeO.none _
   | refine LeO.ite ?_ ?_
   | refine LeO.bind ?_ (fun _ => ?_)
set_option maxHeartbeats 8000000 in
set_option maxRecDepth 100000 in
theorem oculusref01_Digits.calls (k : Nat) (a0 : Int) (r : ByteArray) (w : World) (h : oculusref01_Digits.f k a0 = some r) :
  Calls Tryz.prog 22 #[.int .i64 a0] w fun e w' => e = .returned (.string r) ∧ Below w.heap.size w w' := by
 have HB := Aside0.mk (Below.refl w.heap.size w)
 have H : (oculusref01_Digits.l0 k (wrap64 (Int.tdiv a0 10)) (strOfNums (([(wrap64 (48 + (Int.tmod a0 10))) % 256] : List Int)))) = some r := h
 clear h
 obtain ⟨y250, hy250⟩ : ∃ y_ : List Int, y_ = (([(wrap64 (48 + (Int.tmod a0 10))) % 256] : List Int)) := ⟨_, rfl⟩
 replace H : (oculusref01_Digits.l0 k (wrap64 (Int.tdiv a0 10)) (strOfNums y250)) = some r := by first | (rw [hy250]; with_reducible exact H) | (have H2_ := (Option.bind_some _ _).symm.trans H; rw [hy250]; with_reducible exact H2_) | (have H2_ := (Option.bind_some _ _).symm.trans H; with_reducible exact H2_) | with_reducible exact H | (rw [hy250]; exact H) | exact H
 have Ny250 := Aside0.mk hy250
 clear hy250
 have H' := Aside0.mk H
 clear H
 go_enter Tryz.func22, Tryz.ntmps22
 go_wp2_with (first | ((with_reducible refine gate_dst (N := 8) rfl ?_); refine Kd.R_lit (Kd.int .u8) _ 5 ?hg (N := 8) ?hd (xs := ([(wrap64 (48 + (Int.tmod a0 10))) % 256] : List Int)) (inner := [.int .u8 ((wrap64 (48 + (Int.tmod a0 10))) % 256)]) (ok := fun _ => True) (okp := fun _ => True) ?hr ?hp (fun _ hk => hk) trivial (Below.refl _ _) (Nat.le_refl _) (by simp) ?_; (case hd => rfl); (case hg => rfl); (case hr => first | (go_simp; done) | (go_simp; rfl)); (case hp => exact (Reps.one (show Kd.M (Kd.int .u8) _ _ _ ((wrap64 (48 + (Int.tmod a0 10))) % 256) [.int .u8 ((wrap64 (48 + (Int.tmod a0 10))) % 256)] from rfl) (Reps.none _ _))); intro v251 w2 ho3 hb hg_ hnew_; clear hg_ hnew_; (first | rw [← Ny250.out] at ho3 | (simp only [Int.reduceToNat] at ho3; rw [← Ny250.out] at ho3)); have n0_ := Aside0.mk (Kd.R_lower ho3 (below_size (by repeat (first | (with_reducible first | exact HB.out | apply below_alloc | apply pw_below_drewN | apply below_drew1) | exact HB.out)))); have n1_ := Aside0.mk (below_step (by repeat (first | (with_reducible first | exact HB.out | apply below_alloc | apply pw_below_drewN | apply below_drew1) | exact HB.out)) hb); clear HB; have HO252 := n0_; have HB := n1_; clear n0_ n1_; clear hb ho3; have hcv4 := own_string (P := Tryz.prog) Tryz.underlying65 Tryz.underlying5 Tryz.underlying9 (Kd.own_of_R HO252.out)))
 go_loopg [0, 3] k (fun kq v0 v3 w' => ∃ (x0_1 : Int) (x3_1 : ByteArray), v0 = .int .i64 x0_1 ∧ v3 = .string x3_1 ∧ Aside0 (oculusref01_Digits.l0 kq x0_1 x3_1 = some r) ∧ Aside0 (kq ≤ k) ∧ Aside0 (Below w.heap.size w w'))
 case atStart => exact ⟨(wrap64 (Int.tdiv a0 10)), (strOfNums y250), (by first | rfl | (simp; done) | (simp [*]; done)), (by first | rfl | (simp; done) | (simp [*]; done)), H', ⟨Nat.le_refl _⟩, ⟨by repeat (first | (with_reducible first | exact HB.out | apply below_alloc | apply pw_below_drewN | apply below_drew1) | exact HB.out)⟩⟩
 case round =>
  clear H'
  try clear c2
  try clear p2
  try clear hcv4
  obtain ⟨x0_1, x3_1, rfl, rfl, HA, HK1, HB⟩ := hrel
  cases gk with
  | zero => exact absurd HA.out (by simp [oculusref01_Digits.l0])
  | succ k1 =>
   have H := HA.out
   clear HA
   simp only [oculusref01_Digits.l0] at H
   by_cases c5 : x0_1 > 0
   ·rw [if_pos c5] at H
    have c5b0 : decide (0 < x0_1) = true := decide_eq_true c5
    clear c5
    obtain ⟨y253, hy253⟩ : ∃ y_ : List Int, y_ = (([(wrap64 (48 + (Int.tmod x0_1 10))) % 256] : List Int)) := ⟨_, rfl⟩
    replace H : (if (strOfNums y253).size + x3_1.size ≤ 9223372036854775807 then (oculusref01_Digits.l0 k1 (wrap64 (Int.tdiv x0_1 10)) ((strOfNums y253) ++ x3_1)) else (none)) = some r := by first | (rw [hy253]; with_reducible exact H) | (have H2_ := (Option.bind_some _ _).symm.trans H; rw [hy253]; with_reducible exact H2_) | (have H2_ := (Option.bind_some _ _).symm.trans H; with_reducible exact H2_) | with_reducible exact H | (rw [hy253]; exact H) | exact H
    have Ny253 := Aside0.mk hy253
    clear hy253
    by_cases c6 : (strOfNums y253).size + x3_1.size ≤ 9223372036854775807
    ·rw [if_pos c6] at H
     have c6b0 := eq_true c6
     have c6b1 : decide ((strOfNums y253).size + x3_1.size ≤ 9223372036854775807) = true := decide_eq_true c6
     try have c6b2 : (9223372036854775807 < (strOfNums y253).size + x3_1.size) = False := eq_false (Nat.not_lt.2 c6)
     have H' := Aside0.mk H
     clear H
     go_wp2_with (first | ((with_reducible refine gate_dst (N := 20) rfl ?_); refine Kd.R_lit (Kd.int .u8) _ 5 ?hg (N := 20) ?hd (xs := ([(wrap64 (48 + (Int.tmod x0_1 10))) % 256] : List Int)) (inner := [.int .u8 ((wrap64 (48 + (Int.tmod x0_1 10))) % 256)]) (ok := fun _ => True) (okp := fun _ => True) ?hr ?hp (fun _ hk => hk) trivial (Below.refl _ _) (Nat.le_refl _) (by simp) ?_; (case hd => rfl); (case hg => rfl); (case hr => first | (go_simp; done) | (go_simp; rfl)); (case hp => exact (Reps.one (show Kd.M (Kd.int .u8) _ _ _ ((wrap64 (48 + (Int.tmod x0_1 10))) % 256) [.int .u8 ((wrap64 (48 + (Int.tmod x0_1 10))) % 256)] from rfl) (Reps.none _ _))); intro v254 w7 ho8 hb hg_ hnew_; clear hg_ hnew_; (first | rw [← Ny253.out] at ho8 | (simp only [Int.reduceToNat] at ho8; rw [← Ny253.out] at ho8)); have n0_ := Aside0.mk (Kd.R_lower ho8 (below_size (by repeat (first | (with_reducible first | exact HB.out | apply below_alloc | apply pw_below_drewN | apply below_drew1) | exact HB.out)))); have n1_ := Aside0.mk (below_step (by repeat (first | (with_reducible first | exact HB.out | apply below_alloc | apply pw_below_drewN | apply below_drew1) | exact HB.out)) hb); clear HB; have HO255 := n0_; have HB := n1_; clear n0_ n1_; clear hb ho8; have hcv9 := own_string (P := Tryz.prog) Tryz.underlying65 Tryz.underlying5 Tryz.underlying9 (Kd.own_of_R HO255.out)))
     go_roundg k1
     case measure => have := HK1.out; omega
     case rel => exact ⟨(wrap64 (Int.tdiv x0_1 10)), ((strOfNums y253) ++ x3_1), (by first | rfl | (simp; done) | (simp [*]; done)), (by first | rfl | (simp; done) | (simp [*]; done)), H', ⟨by have := HK1.out; omega⟩, ⟨by repeat (first | (with_reducible first | exact HB.out | apply below_alloc | apply pw_below_drewN | apply below_drew1) | exact HB.out)⟩⟩
    ·rw [if_neg c6] at H
     exact absurd H (by simp)
   ·rw [if_neg c5] at H
    have c5b0 : decide (0 < x0_1) = false := decide_eq_false c5
    clear c5
    obtain rfl := Option.some.inj H
    go_wp2
    go_ret
    exact ⟨by first | rfl | (simp [errW_none, errW_some] <;> rfl) | (simp [*, errW_none, errW_some] <;> rfl), by repeat (first | (with_reducible first | exact HB.out | apply below_alloc | apply pw_below_drewN | apply below_drew1) | exact HB.out)⟩
end Go.Proofs.YtaljjdodjimgdaaGreatDoor.P
namespace Go.Proofs.YtaljjdodjimgdaaGreatDoor.P
open Go.RowKit Go.Proofs.YtaljjdodjimgdaaGreatDoorW.PrintWords Go.Proofs.YtaljjdodjimgdaaGreatDoorW.PrintLast Go.Proofs.YtaljjdodjimgdaaGreatDoorW.PrintMore
attribute [local go_sem] max2_int min2_int max_two min_two max_three min_three max_four min_four
set_option linter.unusedVariables false
set_option linter.unusedSimpArgs false
def dec_May.f (a0 : Int) : Option (Bool) := some (a0 != (-9223372036854775808))
set_option maxHeartbeats 8000000 in
set_option maxRecDepth 100000 in
theorem dec_May.calls (a0 : Int) (r : Bool) (w : World) (h : dec_May.f a0 = some r) :
  Calls Tryz.prog 51 #[.int .i64 a0] w fun e w' => e = .returned (.bool r) ∧ Drawn0 w w' := by
 have H : (some (a0 != (-9223372036854775808))) = some r := h
 clear h
 obtain rfl := Option.some.inj H
 go_enter Tryz.func51, Tryz.ntmps51
 go_wp2
 go_ret
 exact ⟨by first | rfl | (simp; done) | (simp [*]; done), by repeat (first | exact Drawn0.refl _ | apply Drawn0.step)⟩
end Go.Proofs.YtaljjdodjimgdaaGreatDoor.P
namespace Go.Proofs.YtaljjdodjimgdaaGreatDoor.P
open Go.RowKit Go.Proofs.YtaljjdodjimgdaaGreatDoorW.PrintWords Go.Proofs.YtaljjdodjimgdaaGreatDoorW.PrintLast Go.Proofs.YtaljjdodjimgdaaGreatDoorW.PrintMore
attribute [local go_sem] max2_int min2_int max_two min_two max_three min_three max_four min_four
set_option linter.unusedVariables false
set_option linter.unusedSimpArgs false
def dec_Units.f (a0 : Int) : Option (Int) := (dec_May.f a0).bind fun t101 => (if t101 = true then (some (wrap64 (Int.tdiv a0 10000))) else (some 0))
set_option maxHeartbeats 8000000 in
set_option maxRecDepth 100000 in
theorem dec_Units.calls (a0 : Int) (r : Int) (w : World) (h : dec_Units.f a0 = some r) :
  Calls Tryz.prog 53 #[.int .i64 a0] w fun e w' => e = .returned (.int .i64 r) ∧ Drawn0 w w' := by
 have H : ((dec_May.f a0).bind fun t101 => (if t101 = true then (some (wrap64 (Int.tdiv a0 10000))) else (some 0))) = some r := h
 clear h
 replace H := Option.bind_eq_some_iff.mp H
 obtain ⟨t101, A20, H⟩ := H
 replace H : (if t101 = true then (some (wrap64 (Int.tdiv a0 10000))) else (some 0)) = some r := H
 have A2 := Aside0.mk A20
 clear A20
 by_cases c3 : t101 = true
 ·subst c3
  have H1 : (some (wrap64 (Int.tdiv a0 10000))) = some r := by rw [if_pos rfl] at H; exact H
  clear H
  have H := H1
  clear H1
  obtain rfl := Option.some.inj H
  go_enter Tryz.func53, Tryz.ntmps53
  go_wp2_with (first | ((with_reducible refine gate_callee (f := 51) rfl ?_); refine goesL_ (some 4) rfl rfl Tryz.func51 (by kernel_rfl) rfl #[.int .i64 a0] rfl (by (try simp only [List.map_toArray, List.map_cons, List.map_nil]); first | done | rfl | (simp only [List.length_drop, List.length_take]; rfl)) ?_; (with_reducible refine (dec_May.calls a0 true _ A2.out).mono ?_); rintro e w' ⟨rfl, ⟨nd, rfl⟩⟩; refine ⟨_, rfl, ?_⟩))
  go_ret
  exact ⟨by first | rfl | (simp; done) | (simp [*]; done), by repeat (first | exact Drawn0.refl _ | apply Drawn0.step)⟩
 ·replace c3 := Bool.eq_false_iff.mpr c3
  subst c3
  have H1 : (some 0) = some r := by rw [if_neg (show ¬ (false = true) by decide)] at H; exact H
  clear H
  have H := H1
  clear H1
  obtain rfl := Option.some.inj H
  go_enter Tryz.func53, Tryz.ntmps53
  go_wp2_with (first | ((with_reducible refine gate_callee (f := 51) rfl ?_); refine goesL_ (some 4) rfl rfl Tryz.func51 (by kernel_rfl) rfl #[.int .i64 a0] rfl (by (try simp only [List.map_toArray, List.map_cons, List.map_nil]); first | done | rfl | (simp only [List.length_drop, List.length_take]; rfl)) ?_; (with_reducible refine (dec_May.calls a0 false _ A2.out).mono ?_); rintro e w' ⟨rfl, ⟨nd, rfl⟩⟩; refine ⟨_, rfl, ?_⟩))
  go_ret
  exact ⟨by first | rfl | (simp; done) | (simp [*]; done), by repeat (first | exact Drawn0.refl _ | apply Drawn0.step)⟩
end Go.Proofs.YtaljjdodjimgdaaGreatDoor.P
namespace Go.Proofs.YtaljjdodjimgdaaGreatDoor.P
open Go.RowKit Go.Proofs.YtaljjdodjimgdaaGreatDoorW.PrintWords Go.Proofs.YtaljjdodjimgdaaGreatDoorW.PrintLast Go.Proofs.YtaljjdodjimgdaaGreatDoorW.PrintMore
attribute [local go_sem] max2_int min2_int max_two min_two max_three min_three max_four min_four
set_option linter.unusedVariables false
set_option linter.unusedSimpArgs false
mutual
def digits_Text.j0 : Nat → Int → ByteArray → Bool → Option (ByteArray)
 | 0, _, _, _ => none
 | k + 1, x0, x3, x17 => if x17 = true then (if 1 + x3.size ≤ 9223372036854775807 then (digits_Text.j1 k x0 ((⟨#[45]⟩ : ByteArray) ++ x3)) else (none)) else (digits_Text.j1 k x0 x3)
def digits_Text.j1 : Nat → Int → ByteArray → Option (ByteArray)
 | 0, _, _ => none
 | k + 1, x0, x3 => if (Int.tmod x0 10000) = 0 then (some x3) else ((strconv_FormatInt.f (wrap64 (10000 + (mx (Int.tmod x0 10000) (wrap64 (-(Int.tmod x0 10000)))))) 10).bind fun t105 => (if 1 ≤ (t105.size : Int) then (if x3.size + 1 ≤ 9223372036854775807 then ((strings_TrimRight.f (t105.extract 1 t105.size) (⟨#[48]⟩ : ByteArray)).bind fun t106 => (if (x3 ++ (⟨#[46]⟩ : ByteArray)).size + t106.size ≤ 9223372036854775807 then (some ((x3 ++ (⟨#[46]⟩ : ByteArray)) ++ t106)) else (none))) else (none)) else (none)))
end
def digits_Text.f (k : Nat) (a0 : Int) : Option (ByteArray) := (dec_May.f a0).bind fun t102 => (if t102 = true then ((dec_Units.f a0).bind fun t103 => ((strconv_FormatInt.f t103 10).bind fun t104 => (if a0 < 0 then (digits_Text.j0 k a0 t104 (decide (a0 > (-10000)))) else (digits_Text.j0 k a0 t104 false)))) else (some (⟨#[]⟩ : ByteArray)))
theorem digits_Text.mono_l : ∀ k, (∀ y0 y1 y2, LeO (digits_Text.j0 k y0 y1 y2) (digits_Text.j0 (k + 1) y0 y1 y2)) ∧ (∀ y0 y1, LeO (digits_Text.j1 k y0 y1) (digits_Text.j1 (k + 1) y0 y1))
 | 0 => ⟨fun _ _ _ r h => by simp [digits_Text.j0] at h, fun _ _ r h => by simp [digits_Text.j1] at h⟩
 | k + 1 => by
  obtain ⟨ih0, ih1⟩ := digits_Text.mono_l k
  refine ⟨?_, ?_⟩
  ·intro y0 y1 y2
   unfold digits_Text.j0
   repeat' first
   | (with_reducible exact ih0 _ _ _)
   | (with_reducible exact ih1 _ _)
   | (with_reducible exact LeO.refl _)
   | (with_reducible exact LeO.none _)
   | (with_reducible refine LeO.ite ?_ ?_)
   | (with_reducible refine LeO.bind ?_ (fun _ => ?_))
   | exact ih0 _ _ _
   | exact ih1 _ _
   | exact LeO.none _
   | refine LeO.ite ?_ ?_
   | refine LeO.bind ?_ (fun _ => ?_)
  ·intro y0 y1
   unfold digits_Text.j1
   repeat' first
   | (with_reducible exact ih0 _ _ _)
   | (with_reducible exact ih1 _ _)
   | (with_reducible exact LeO.refl _)
   | (with_reducible exact LeO.none _)
   | (with_reducible refine LeO.ite ?_ ?_)
   | (with_reducible refine LeO.bind ?_ (fun _ => ?_))
   | exact ih0 _ _ _
   | exact ih1 _ _
   | exact LeO.none _
   | refine LeO.ite ?_ ?_
   | refine LeO.bind ?_ (fun _ => ?_)
theorem digits_Text.mono : ∀ a0 k, LeO (digits_Text.f k a0) (digits_Text.f (k + 1) a0) := by
 intro a0 k
 obtain ⟨ih0, ih1⟩ := digits_Text.mono_l k
 unfold digits_Text.f
 repeat' first
   | (with_reducible exact ih0 _ _ _)
   | (with_reducible exact ih1 _ _)
   | (with_reducible exact LeO.refl _)
   | (with_reducible exact LeO.none _)
   | (with_reducible refine LeO.ite ?_ ?_)
   | (with_reducible refine LeO.bind ?_ (fun _ => ?_))
   | exact ih0 _ _ _
   | exact ih1 _ _
   | exact LeO.none _
   | refine LeO.ite ?_ ?_
   | refine LeO.bind ?_ (fun _ => ?_)
set_option maxHeartbeats 8000000 in
set_option maxRecDepth 100000 in
theorem digits_Text.calls (k : Nat) (a0 : Int) (r : ByteArray) (w : World) (hG : GInv w) (h : digits_Text.f k a0 = some r) :
  Calls Tryz.prog 33 #[.int .i64 a0] w fun e w' => e = .returned (.string r) ∧ Below w.heap.size w w' := by
 have HG := Aside0.mk hG
 clear hG
 have HB := Aside0.mk (Below.refl w.heap.size w)
 have H : ((dec_May.f a0).bind fun t102 => (if t102 = true then ((dec_Units.f a0).bind fun t103 => ((strconv_FormatInt.f t103 10).bind fun t104 => (if a0 < 0 then (digits_Text.j0 k a0 t104 (decide (a0 > (-10000)))) else (digits_Text.j0 k a0 t104 false)))) else (some (⟨#[]⟩ : ByteArray)))) = some r := h
 clear h
 replace H := Option.bind_eq_some_iff.mp H
 obtain ⟨t102, A20, H⟩ := H
 replace H : (if t102 = true then ((dec_Units.f a0).bind fun t103 => ((strconv_FormatInt.f t103 10).bind fun t104 => (if a0 < 0 then (digits_Text.j0 k a0 t104 (decide (a0 > (-10000)))) else (digits_Text.j0 k a0 t104 false)))) else (some (⟨#[]⟩ : ByteArray))) = some r := H
 have A2 := Aside0.mk A20
 clear A20
 by_cases c3 : t102 = true
 ·subst c3
  have H1 : ((dec_Units.f a0).bind fun t103 => ((strconv_FormatInt.f t103 10).bind fun t104 => (if a0 < 0 then (digits_Text.j0 k a0 t104 (decide (a0 > (-10000)))) else (digits_Text.j0 k a0 t104 false)))) = some r := by rw [if_pos rfl] at H; exact H
  clear H
  have H := H1
  clear H1
  replace H := Option.bind_eq_some_iff.mp H
  obtain ⟨t103, A40, H⟩ := H
  replace H : ((strconv_FormatInt.f t103 10).bind fun t104 => (if a0 < 0 then (digits_Text.j0 k a0 t104 (decide (a0 > (-10000)))) else (digits_Text.j0 k a0 t104 false))) = some r := H
  have A4 := Aside0.mk A40
  clear A40
  replace H := Option.bind_eq_some_iff.mp H
  obtain ⟨t104, A50, H⟩ := H
  replace H : (if a0 < 0 then (digits_Text.j0 k a0 t104 (decide (a0 > (-10000)))) else (digits_Text.j0 k a0 t104 false)) = some r := H
  have A5 := Aside0.mk A50
  clear A50
  have HC6 := Aside0.mk H
  clear H
  go_enter Tryz.func33, Tryz.ntmps33
  go_upto_region 4 with (first | ((with_reducible refine gate_callee (f := 51) rfl ?_); refine goesL_ (some 7) rfl rfl Tryz.func51 (by kernel_rfl) rfl #[.int .i64 a0] rfl (by (try simp only [List.map_toArray, List.map_cons, List.map_nil]); first | done | rfl | (simp only [List.length_drop, List.length_take]; rfl)) ?_; (with_reducible refine (dec_May.calls a0 true _ A2.out).mono ?_); rintro e w' ⟨rfl, ⟨nd, rfl⟩⟩; refine ⟨_, rfl, ?_⟩) | ((with_reducible refine gate_callee (f := 53) rfl ?_); refine goesL_ (some 10) rfl rfl Tryz.func53 (by kernel_rfl) rfl #[.int .i64 a0] rfl (by (try simp only [List.map_toArray, List.map_cons, List.map_nil]); first | done | rfl | (simp only [List.length_drop, List.length_take]; rfl)) ?_; (with_reducible refine (dec_Units.calls a0 t103 _ A4.out).mono ?_); rintro e w' ⟨rfl, ⟨nd, rfl⟩⟩; refine ⟨_, rfl, ?_⟩) | ((with_reducible refine gate_callee (f := 52) rfl ?_); refine goesL_ (some 11) rfl rfl Tryz.func52 (by kernel_rfl) rfl #[.int .i64 t103, .int .i64 10] rfl (by (try simp only [List.map_toArray, List.map_cons, List.map_nil]); first | done | rfl | (simp only [List.length_drop, List.length_take]; rfl)) ?_; (with_reducible refine (strconv_FormatInt.calls t103 10 t104 _ ?side1 A5.out).mono ?_); (case side1 => exact GInv.below HG.out (by repeat (first | (with_reducible first | exact HB.out | apply below_alloc | apply pw_below_drewN | apply below_drew1) | exact HB.out))); rintro e w7 ⟨rfl, hb⟩; refine ⟨_, rfl, ?_⟩; have n0_ := Aside0.mk (below_step (by repeat (first | (with_reducible first | exact HB.out | apply below_alloc | apply pw_below_drewN | apply below_drew1) | exact HB.out)) hb); clear HB; have HB := n0_; clear n0_; (try clear hb); (try clear hb2); (try clear hk); (try clear hi)))
  (try simp only [Act.put, List.setIfInBounds_toArray, List.set_cons_zero, List.set_cons_succ])
  go_cut [17] (fun v17 wc => ∃ (kq : Nat) (x17_5 : Bool), v17 = .bool x17_5 ∧ Aside0 (digits_Text.j0 kq a0 t104 x17_5 = some r) ∧ Aside0 (kq ≤ k) ∧ Aside0 (Below w.heap.size w wc))
  case first =>
   have H := HC6.out
   clear HC6
   by_cases c8 : a0 < 0
   ·rw [if_pos c8] at H
    have c8b0 : decide (a0 < 0) = true := decide_eq_true c8
    clear c8
    (first | rw [c8b0] | (simp only [i64_w, i32_w]; rw [c8b0]) | skip)
    have H' := Aside0.mk H
    clear H
    go_wp2
    go_meet
    case rel => exact ⟨_, (decide (a0 > (-10000))), (by first | rfl | (simp; done) | (simp [*]; done)), H', ⟨by first | omega | exact Nat.le_refl _⟩, ⟨by repeat (first | (with_reducible first | exact HB.out | apply below_alloc | apply pw_below_drewN | apply below_drew1) | exact HB.out)⟩⟩
   ·rw [if_neg c8] at H
    have c8b0 : decide (a0 < 0) = false := decide_eq_false c8
    clear c8
    (first | rw [c8b0] | (simp only [i64_w, i32_w]; rw [c8b0]) | skip)
    have H' := Aside0.mk H
    clear H
    go_wp2
    go_meet
    case rel => exact ⟨_, (false), (by first | rfl | (simp; done) | (simp [*]; done)), H', ⟨by first | omega | exact Nat.le_refl _⟩, ⟨by repeat (first | (with_reducible first | exact HB.out | apply below_alloc | apply pw_below_drewN | apply below_drew1) | exact HB.out)⟩⟩
  case rest =>
   clear HC6
   try clear p2
   try clear c3
   try clear c5
   try clear c8
   try clear c8b0
   obtain ⟨kq, x17_5, rfl, HA, HJ5, HB⟩ := hcut
   cases kq with
   | zero => exact absurd HA.out (by simp [digits_Text.j0])
   | succ kj5 =>
    have H := HA.out
    clear HA
    simp only [digits_Text.j0] at H
    have HC9 := Aside0.mk H
    clear H
    go_upto_if 17 with (fail)
    go_cut [3] (fun v3 wc => ∃ (kq : Nat) (x3_8 : ByteArray), v3 = .string x3_8 ∧ Aside0 (digits_Text.j1 kq a0 x3_8 = some r) ∧ Aside0 (kq ≤ kj5) ∧ Aside0 (Below w.heap.size w wc))
    case first =>
     have H := HC9.out
     clear HC9
     by_cases c10 : x17_5 = true
     ·subst c10
      have H1 : (if 1 + t104.size ≤ 9223372036854775807 then (digits_Text.j1 kj5 a0 ((⟨#[45]⟩ : ByteArray) ++ t104)) else (none)) = some r := by rw [if_pos rfl] at H; exact H
      clear H
      have H := H1
      clear H1
      by_cases c11 : 1 + t104.size ≤ 9223372036854775807
      ·rw [if_pos c11] at H
       have c11b0 := eq_true c11
       have c11b1 : decide (1 + t104.size ≤ 9223372036854775807) = true := decide_eq_true c11
       try have c11b2 : (9223372036854775807 < 1 + t104.size) = False := eq_false (Nat.not_lt.2 c11)
       have H' := Aside0.mk H
       clear H
       go_wp2
       go_meet
       case rel => exact ⟨_, ((⟨#[45]⟩ : ByteArray) ++ t104), (by first | rfl | (simp; done) | (simp [*]; done)), H', ⟨by have := HJ5.out; first | omega | exact Nat.le_refl _⟩, ⟨by repeat (first | (with_reducible first | exact HB.out | apply below_alloc | apply pw_below_drewN | apply below_drew1) | exact HB.out)⟩⟩
      ·rw [if_neg c11] at H
       exact absurd H (by simp)
     ·replace c10 := Bool.eq_false_iff.mpr c10
      subst c10
      have H1 : (digits_Text.j1 kj5 a0 t104) = some r := by rw [if_neg (show ¬ (false = true) by decide)] at H; exact H
      clear H
      have H := H1
      clear H1
      have H' := Aside0.mk H
      clear H
      go_wp2
      go_meet
      case rel => exact ⟨_, (t104), (by first | rfl | (simp; done) | (simp [*]; done)), H', ⟨by have := HJ5.out; first | omega | exact Nat.le_refl _⟩, ⟨by repeat (first | (with_reducible first | exact HB.out | apply below_alloc | apply pw_below_drewN | apply below_drew1) | exact HB.out)⟩⟩
    case rest =>
     clear HC9
     try clear c1
     try clear p2
     try clear c3
     try clear c5
     try clear c8
     try clear c8b0
     try clear c10
     try clear c11
     try clear c11b0
     try clear c11b1
     try clear c11b2
     try clear p2
     obtain ⟨kq, x3_8, rfl, HA, HJ8, HB⟩ := hcut
     cases kq with
     | zero => exact absurd HA.out (by simp [digits_Text.j1])
     | succ kj8 =>
      have H := HA.out
      clear HA
      simp only [digits_Text.j1] at H
      by_cases c12 : (Int.tmod a0 10000) = 0
      ·rw [if_pos c12] at H
       have c12b0 : ((Int.tmod a0 10000) == 0) = true := beq_iff_eq.mpr c12
       have c12b1 : ((Int.tmod a0 10000) != 0) = false := bne_eq_false_iff_eq.mpr c12
       clear c12
       obtain rfl := Option.some.inj H
       go_wp2
       go_ret
       exact ⟨by first | rfl | (simp [errW_none, errW_some] <;> rfl) | (simp [*, errW_none, errW_some] <;> rfl), by repeat (first | (with_reducible first | exact HB.out | apply below_alloc | apply pw_below_drewN | apply below_drew1) | exact HB.out)⟩
      ·rw [if_neg c12] at H
       have c12b0 : ((Int.tmod a0 10000) == 0) = false := beq_eq_false_iff_ne.mpr c12
       have c12b1 : ((Int.tmod a0 10000) != 0) = true := bne_iff_ne.mpr c12
       obtain ⟨ji13, hji13⟩ : ∃ j_ : Int, (mx (Int.tmod a0 10000) (wrap64 (-(Int.tmod a0 10000)))) = j_ := ⟨_, rfl⟩
       replace H : ((strconv_FormatInt.f (wrap64 (10000 + (ji13))) 10).bind fun t105 => (if 1 ≤ (t105.size : Int) then (if x3_8.size + 1 ≤ 9223372036854775807 then ((strings_TrimRight.f (t105.extract 1 t105.size) (⟨#[48]⟩ : ByteArray)).bind fun t106 => (if (x3_8 ++ (⟨#[46]⟩ : ByteArray)).size + t106.size ≤ 9223372036854775807 then (some ((x3_8 ++ (⟨#[46]⟩ : ByteArray)) ++ t106)) else (none))) else (none)) else (none))) = some r := by first | (rw [hji13] at H; exact H) | (simp only [hji13] at H ⊢; exact H)
       have hji13_ : (if (Int.tmod a0 10000) < (wrap64 (-(Int.tmod a0 10000))) then (wrap64 (-(Int.tmod a0 10000))) else (Int.tmod a0 10000)) = ji13 := hji13
       replace H := Option.bind_eq_some_iff.mp H
       obtain ⟨t105, A140, H⟩ := H
       replace H : (if 1 ≤ (t105.size : Int) then (if x3_8.size + 1 ≤ 9223372036854775807 then ((strings_TrimRight.f (t105.extract 1 t105.size) (⟨#[48]⟩ : ByteArray)).bind fun t106 => (if (x3_8 ++ (⟨#[46]⟩ : ByteArray)).size + t106.size ≤ 9223372036854775807 then (some ((x3_8 ++ (⟨#[46]⟩ : ByteArray)) ++ t106)) else (none))) else (none)) else (none)) = some r := H
       have A14 := Aside0.mk A140
       clear A140
       by_cases c15 : 1 ≤ (t105.size : Int)
       ·rw [if_pos c15] at H
        have c15b0 := eq_true c15
        have c15b1 : decide (1 ≤ (t105.size : Int)) = true := decide_eq_true c15
        clear c15
        by_cases c16 : x3_8.size + 1 ≤ 9223372036854775807
        ·rw [if_pos c16] at H
         have c16b0 := eq_true c16
         have c16b1 : decide (x3_8.size + 1 ≤ 9223372036854775807) = true := decide_eq_true c16
         try have c16b2 : (9223372036854775807 < x3_8.size + 1) = False := eq_false (Nat.not_lt.2 c16)
         replace H := Option.bind_eq_some_iff.mp H
         obtain ⟨t106, A170, H⟩ := H
         replace H : (if (x3_8 ++ (⟨#[46]⟩ : ByteArray)).size + t106.size ≤ 9223372036854775807 then (some ((x3_8 ++ (⟨#[46]⟩ : ByteArray)) ++ t106)) else (none)) = some r := H
         have A17 := Aside0.mk A170
         clear A170
         by_cases c18 : (x3_8 ++ (⟨#[46]⟩ : ByteArray)).size + t106.size ≤ 9223372036854775807
         ·rw [if_pos c18] at H
          have c18b0 := eq_true c18
          have c18b1 : decide ((x3_8 ++ (⟨#[46]⟩ : ByteArray)).size + t106.size ≤ 9223372036854775807) = true := decide_eq_true c18
          try have c18b2 : (9223372036854775807 < (x3_8 ++ (⟨#[46]⟩ : ByteArray)).size + t106.size) = False := eq_false (Nat.not_lt.2 c18)
          try (have c18b3 := c18b2; simp only [ByteArray.size_append, bsz_mk, List.size_toArray, List.length_cons, List.length_nil, Nat.zero_add, Nat.reduceAdd] at c18b3)
          obtain rfl := Option.some.inj H
          go_wp2_with (first | ((with_reducible refine gate_callee (f := 52) rfl ?_); refine goesL_ (some 31) rfl rfl Tryz.func52 (by kernel_rfl) rfl #[.int .i64 (wrap64 (10000 + (ji13))), .int .i64 10] rfl (by (try simp only [List.map_toArray, List.map_cons, List.map_nil]); first | done | (simp only [hji13]; rfl) | rfl | (simp only [List.length_drop, List.length_take]; rfl)) ?_; (with_reducible refine (strconv_FormatInt.calls (wrap64 (10000 + (ji13))) 10 t105 _ ?side1 A14.out).mono ?_); (case side1 => exact GInv.below HG.out (by repeat (first | (with_reducible first | exact HB.out | apply below_alloc | apply pw_below_drewN | apply below_drew1) | exact HB.out))); rintro e w19 ⟨rfl, hb⟩; refine ⟨_, rfl, ?_⟩; have n0_ := Aside0.mk (below_step (by repeat (first | (with_reducible first | exact HB.out | apply below_alloc | apply pw_below_drewN | apply below_drew1) | exact HB.out)) hb); clear HB; have HB := n0_; clear n0_; (try clear hb); (try clear hb2); (try clear hk); (try clear hi)) | ((with_reducible refine gate_callee (f := 54) rfl ?_); refine goesL_ (some 36) rfl rfl Tryz.func54 (by kernel_rfl) rfl #[.string (t105.extract 1 t105.size), .string (⟨#[48]⟩ : ByteArray)] rfl (by (try simp only [List.map_toArray, List.map_cons, List.map_nil]); first | done | rfl | (simp only [List.length_drop, List.length_take]; rfl)) ?_; (with_reducible refine (strings_TrimRight.calls (t105.extract 1 t105.size) (⟨#[48]⟩ : ByteArray) t106 _ ?side1 A17.out).mono ?_); (case side1 => exact GInv.below HG.out (by repeat (first | (with_reducible first | exact HB.out | apply below_alloc | apply pw_below_drewN | apply below_drew1) | exact HB.out))); rintro e w20 ⟨rfl, hb⟩; refine ⟨_, rfl, ?_⟩; have n0_ := Aside0.mk (below_step (by repeat (first | (with_reducible first | exact HB.out | apply below_alloc | apply pw_below_drewN | apply below_drew1) | exact HB.out)) hb); clear HB; have HB := n0_; clear n0_; (try clear hb); (try clear hb2); (try clear hk); (try clear hi)))
          go_ret
          exact ⟨by first | rfl | (simp [errW_none, errW_some] <;> rfl) | (simp only [← hji13]; first | rfl | (simp [errW_none, errW_some] <;> rfl)) | (simp [*, errW_none, errW_some] <;> rfl), by repeat (first | (with_reducible first | exact HB.out | apply below_alloc | apply pw_below_drewN | apply below_drew1) | exact HB.out)⟩
         ·rw [if_neg c18] at H
          exact absurd H (by simp)
        ·rw [if_neg c16] at H
         exact absurd H (by simp)
       ·rw [if_neg c15] at H
        exact absurd H (by simp)
 ·replace c3 := Bool.eq_false_iff.mpr c3
  subst c3
  have H1 : (some (⟨#[]⟩ : ByteArray)) = some r := by rw [if_neg (show ¬ (false = true) by decide)] at H; exact H
  clear H
  have H := H1
  clear H1
  obtain rfl := Option.some.inj H
  go_enter Tryz.func33, Tryz.ntmps33
  go_wp2_with (first | ((with_reducible refine gate_callee (f := 51) rfl ?_); refine goesL_ (some 7) rfl rfl Tryz.func51 (by kernel_rfl) rfl #[.int .i64 a0] rfl (by (try simp only [List.map_toArray, List.map_cons, List.map_nil]); first | done | rfl | (simp only [List.length_drop, List.length_take]; rfl)) ?_; (with_reducible refine (dec_May.calls a0 false _ A2.out).mono ?_); rintro e w' ⟨rfl, ⟨nd, rfl⟩⟩; refine ⟨_, rfl, ?_⟩))
  go_ret
  exact ⟨by first | rfl | (simp [errW_none, errW_some] <;> rfl) | (simp [*, errW_none, errW_some] <;> rfl), by repeat (first | (with_reducible first | exact HB.out | apply below_alloc | apply pw_below_drewN | apply below_drew1) | exact HB.out)⟩
end Go.Proofs.YtaljjdodjimgdaaGreatDoor.P
namespace Go.Proofs.YtaljjdodjimgdaaGreatDoor.P
open Go.RowKit Go.Proofs.YtaljjdodjimgdaaGreatDoorW.PrintWords Go.Proofs.YtaljjdodjimgdaaGreatDoorW.PrintLast Go.Proofs.YtaljjdodjimgdaaGreatDoorW.PrintMore
def dig (n : Nat) : UInt8 := UInt8.ofNat (48 + n)
theorem dec_small (u : Nat) (h : u < 10) : Lib.decDigits u = [dig u] := by rw [Lib.decDigits]; simp [h, dig]
theorem dec_big (u : Nat) (h : ¬ u < 10) : Lib.decDigits u = Lib.decDigits (u / 10) ++ [dig (u % 10)] := by rw [Lib.decDigits]; simp [h, dig]
theorem dec_len : ∀ (n u : Nat), u < 10 ^ (n + 1) → (Lib.decDigits u).length ≤ n + 1 := by
  intro n
  induction n with
  | zero => intro u h; rw [dec_small u (by omega)]; simp
  | succ n ih =>
    intro u h
    by_cases hu : u < 10
    · rw [dec_small u hu]; simp
    · rw [dec_big u hu]
      have := ih (u / 10) (by rw [Nat.pow_succ] at h; omega)
      simp; omega
theorem dec_len20 (u : Nat) (h : u < 18446744073709551616) : (Lib.decDigits u).length ≤ 20 := dec_len 19 u (by omega)
theorem dec_pos (u : Nat) : 1 ≤ (Lib.decDigits u).length := by
  by_cases hu : u < 10
  · rw [dec_small u hu]; simp
  · rw [dec_big u hu]; simp
theorem digit_of {x : Int} (m : Nat) (hx : x = (m : Int)) (hm : m < 10) : strOfNums [(48 + x) % 256] = mkS [dig m] := by
  subst hx
  rw [strOfNums_mkS, mkS_inj]
  simp only [List.map_cons, List.map_nil, dig, List.cons.injEq, and_true]
  congr 1
  omega
theorem ref01_loop (nd : Nat) : ∀ (m : Nat) (acc : List UInt8), m < 10 ^ nd → m < 9223372036854775808 → acc.length + nd ≤ 1000000 → Ev (fun k => oculusref01_Digits.l0 k (m : Int) (mkS acc)) (mkS (if m = 0 then acc else Lib.decDigits m ++ acc)) := by
  induction nd with
  | zero =>
    intro m acc h _ _
    obtain rfl : m = 0 := by simpa using h
    refine ev_succ (fun k => oculusref01_Digits.l0.eq_2 ..) ?_
    exact ev_neg (by omega) (ev_now _)
  | succ nd ih =>
    intro m acc hp hm ha
    refine ev_succ (fun k => oculusref01_Digits.l0.eq_2 ..) ?_
    by_cases h0 : m = 0
    · subst h0
      exact ev_neg (by omega) (ev_now _)
    · refine ev_pos (by omega) (ev_some ?_)
      have e1 : wrap64 (Int.tdiv (m : Int) 10) = ((m / 10 : Nat) : Int) := by rw [tdv (by omega), w64] <;> omega
      have e0 : wrap64 (48 + Int.tmod (m : Int) 10) = 48 + ((m % 10 : Nat) : Int) := by rw [tmd (by omega), w64] <;> omega
      have e2 : strOfNums [(wrap64 (48 + Int.tmod (m : Int) 10)) % 256] = mkS [dig (m % 10)] := by rw [e0]; exact digit_of _ rfl (by omega)
      simp only [e2, mkS_append, mkS_size, e1]
      refine ev_pos (by simp; omega) ?_
      refine ev_sub (ih (m / 10) _ (by rw [Nat.pow_succ] at hp; omega) (by omega) (by simp; omega)) ?_
      rw [if_neg h0]
      by_cases h1 : m < 10
      · rw [dec_small m h1, if_pos (by omega), show m % 10 = m by omega]
      · rw [dec_big m h1, if_neg (by omega)]; simp
theorem ref01_digits {n : Int} (h0 : 0 ≤ n) (h1 : n ≤ 9223372036854775807) : Ev (fun k => oculusref01_Digits.f k n) (mkS (Lib.decDigits n.toNat)) := by
  obtain ⟨m, rfl⟩ := Int.eq_ofNat_of_zero_le h0
  rw [Int.toNat_natCast]
  unfold oculusref01_Digits.f
  have e1 : wrap64 (Int.tdiv (m : Int) 10) = ((m / 10 : Nat) : Int) := by rw [tdv (by omega), w64] <;> omega
  have e0 : wrap64 (48 + Int.tmod (m : Int) 10) = 48 + ((m % 10 : Nat) : Int) := by rw [tmd (by omega), w64] <;> omega
  have e2 : strOfNums [(wrap64 (48 + Int.tmod (m : Int) 10)) % 256] = mkS [dig (m % 10)] := by rw [e0]; exact digit_of _ rfl (by omega)
  simp only [e1, e2]
  refine ev_sub (ref01_loop 20 (m / 10) [dig (m % 10)] (by omega) (by omega) (by simp)) ?_
  by_cases h : m < 10
  · rw [if_pos (by omega), dec_small m h, show m % 10 = m by omega]
  · rw [if_neg (by omega), dec_big m h]
def tail4 (r : Nat) : List UInt8 :=
  if r % 10000 = 0 then [] else dig (r / 1000) :: (if r % 1000 = 0 then [] else dig (r % 1000 / 100) :: (if r % 100 = 0 then [] else dig (r % 100 / 10) :: (if r % 10 = 0 then [] else [dig (r % 10)])))
def decText (x : Int) : List UInt8 :=
  if x = -9223372036854775808 then [] else (if x < 0 then [45] else []) ++ Lib.decDigits (x.natAbs / 10000) ++ (if x.natAbs % 10000 = 0 then [] else 46 :: tail4 (x.natAbs % 10000))
theorem tail4_len (r : Nat) : (tail4 r).length ≤ 4 := by
  unfold tail4
  repeat (first | split | simp)
theorem bt_get (s : ByteArray) (i : Nat) (h : i < s.data.toList.length) : bt s (i : Int) = ((s.data.toList[i]).toNat : Int) := by
  unfold bt
  rw [dif_pos (by rw [size_data]; simpa using h)]
  rfl
end Go.Proofs.YtaljjdodjimgdaaGreatDoor.P
namespace Go.Proofs.YtaljjdodjimgdaaGreatDoor.P
open Go.RowKit Go.Proofs.YtaljjdodjimgdaaGreatDoorW.PrintWords Go.Proofs.YtaljjdodjimgdaaGreatDoorW.PrintLast Go.Proofs.YtaljjdodjimgdaaGreatDoorW.PrintMore
theorem dig_zero {n : Nat} (h : n < 10) : (dig n == 48) = decide (n = 0) := by
  unfold dig
  rw [Bool.eq_iff_iff]
  simp only [beq_iff_eq, decide_eq_true_eq]
  constructor
  · intro e
    have := congrArg UInt8.toNat e
    simp at this
    omega
  · rintro rfl; rfl
theorem dec_five (r : Nat) (h : r < 10000) : Lib.decDigits (10000 + r) = [dig 1, dig (r / 1000), dig (r % 1000 / 100), dig (r % 100 / 10), dig (r % 10)] := by
  rw [dec_big _ (by omega), dec_big _ (by omega), dec_big _ (by omega), dec_big _ (by omega), dec_small _ (by omega)]
  rw [show (10000 + r) / 10 / 10 / 10 / 10 = 1 by omega, show (10000 + r) / 10 / 10 / 10 % 10 = r / 1000 by omega, show (10000 + r) / 10 / 10 % 10 = r % 1000 / 100 by omega, show (10000 + r) / 10 % 10 = r % 100 / 10 by omega, show (10000 + r) % 10 = r % 10 by omega]
  rfl
theorem trim_tail (r : Nat) (h : r < 10000) (h0 : r ≠ 0) : Lib.trimRightB ((Lib.decDigits (10000 + r)).drop 1) 48 = tail4 r := by
  rw [dec_five r h]
  unfold Lib.trimRightB tail4
  simp only [List.drop_succ_cons, List.drop_zero, List.reverse_cons, List.reverse_nil, List.nil_append, List.cons_append, List.dropWhile_cons]
  rw [dig_zero (n := r % 10) (by omega), dig_zero (n := r % 100 / 10) (by omega), dig_zero (n := r % 1000 / 100) (by omega), dig_zero (n := r / 1000) (by omega)]
  rw [if_neg (show ¬ r % 10000 = 0 by omega)]
  by_cases h1 : r % 10 = 0
  · by_cases h2 : r % 100 = 0
    · by_cases h3 : r % 1000 = 0
      · simp [h1, h2, h3, show ¬ r / 1000 = 0 by omega]
      · simp [h1, h2, h3, show ¬ r % 1000 / 100 = 0 by omega]
    · simp [h1, h2, show ¬ r % 1000 = 0 by omega, show ¬ r % 100 / 10 = 0 by omega]
  · simp [h1, show ¬ r % 100 = 0 by omega, show ¬ r % 1000 = 0 by omega]
theorem itoa_nn {n : Int} (h : 0 ≤ n) : Lib.itoa n = Lib.decDigits n.toNat := by unfold Lib.itoa; rw [if_neg (by omega)]
theorem itoa_neg {n : Int} (h : n < 0) : Lib.itoa n = 45 :: Lib.decDigits n.natAbs := by unfold Lib.itoa; rw [if_pos h]
theorem digits_j1 (x : Int) (h0 : -9223372036854775807 ≤ x) (h1 : x ≤ 9223372036854775807) (s : List UInt8) (hs : s.length ≤ 1000) :
    Ev (fun k => digits_Text.j1 k x (mkS s)) (mkS (s ++ if x.natAbs % 10000 = 0 then [] else 46 :: tail4 (x.natAbs % 10000))) := by
  refine ev_succ (fun k => digits_Text.j1.eq_2 ..) ?_
  have hr : Int.tmod x 10000 = if x < 0 then -((x.natAbs % 10000 : Nat) : Int) else ((x.natAbs % 10000 : Nat) : Int) := by
    split
    · have : x = -((x.natAbs : Nat) : Int) := by omega
      rw [this, Int.neg_tmod, tmd (by omega)]; omega
    · rw [tmd (by omega)]; omega
  by_cases hz : x.natAbs % 10000 = 0
  · refine ev_pos (by rw [hr]; split <;> omega) ?_
    rw [if_pos hz]; simp only [List.append_nil]; exact ev_now _
  · refine ev_neg (by rw [hr]; split <;> omega) ?_
    have hm : wrap64 (10000 + mx (Int.tmod x 10000) (wrap64 (-Int.tmod x 10000))) = ((10000 + x.natAbs % 10000 : Nat) : Int) := by
      have e : wrap64 (-Int.tmod x 10000) = -Int.tmod x 10000 := by rw [w64] <;> (rw [hr]; split <;> omega)
      rw [e]
      have e2 : mx (Int.tmod x 10000) (-Int.tmod x 10000) = ((x.natAbs % 10000 : Nat) : Int) := by
        unfold mx; rw [hr]; split <;> split <;> omega
      rw [e2, w64] <;> omega
    rw [hm]
    have hf : strconv_FormatInt.f ((10000 + x.natAbs % 10000 : Nat) : Int) 10 = some (mkS (Lib.decDigits (10000 + x.natAbs % 10000))) := by
      unfold strconv_FormatInt.f
      rw [if_pos ⟨by omega, by omega, rfl⟩, itoa_nn (by omega), Int.toNat_natCast]
    refine ev_eq hf ?_
    refine ev_pos (by rw [mkS_size]; have := dec_pos (10000 + x.natAbs % 10000); omega) ?_
    refine ev_pos (by rw [mkS_size]; omega) ?_
    have hl : (Lib.decDigits (10000 + x.natAbs % 10000)).length = 5 := by rw [dec_five _ (by omega)]; rfl
    have ht : strings_TrimRight.f ((mkS (Lib.decDigits (10000 + x.natAbs % 10000))).extract 1 (mkS (Lib.decDigits (10000 + x.natAbs % 10000))).size) ⟨#[48]⟩ = some (mkS (tail4 (x.natAbs % 10000))) := by
      rw [mkS_extract, mkS_size, List.take_length]
      unfold strings_TrimRight.f
      rw [if_pos ⟨rfl, by rw [mkS_size]; simp; omega⟩, mkS_data, trim_tail _ (by omega) hz]
    refine ev_eq ht ?_
    have h4 := tail4_len (x.natAbs % 10000)
    simp only [lit_mkS, mkS_append, mkS_size, List.length_append]
    refine ev_pos (by simp; omega) ?_
    refine ev_sub (ev_now _) ?_
    rw [if_neg hz]
    simp
theorem digits_text (x : Int) (h0 : -9223372036854775808 ≤ x) (h1 : x ≤ 9223372036854775807) : Ev (fun k => digits_Text.f k x) (mkS (decText x)) := by
  unfold digits_Text.f
  by_cases hmin : x = -9223372036854775808
  · subst hmin
    exact ev_now _
  · refine ev_eq (a := true) (by unfold dec_May.f; simp [hmin]) ?_
    refine ev_pos rfl ?_
    have hu : dec_Units.f x = some (wrap64 (Int.tdiv x 10000)) := by unfold dec_Units.f dec_May.f; simp [hmin]
    refine ev_eq hu ?_
    by_cases hneg : x < 0
    · have ha : x = -((x.natAbs : Nat) : Int) := by omega
      have hd : wrap64 (Int.tdiv x 10000) = -((x.natAbs / 10000 : Nat) : Int) := by
        have : Int.tdiv x 10000 = -((x.natAbs / 10000 : Nat) : Int) := by
          conv => lhs; rw [ha]
          rw [Int.neg_tdiv, tdv (by omega)]; omega
        rw [this, w64] <;> omega
      rw [hd]
      by_cases hq : x.natAbs / 10000 = 0
      · have hf : strconv_FormatInt.f (-((x.natAbs / 10000 : Nat) : Int)) 10 = some (mkS [48]) := by
          unfold strconv_FormatInt.f
          rw [if_pos ⟨by omega, by omega, rfl⟩, hq, show (-((0 : Nat) : Int)) = 0 from rfl, itoa_nn (by omega), show Int.toNat 0 = 0 from rfl, dec_small 0 (by omega)]; rfl
        refine ev_eq hf ?_
        refine ev_pos hneg ?_
        rw [show decide (x > -10000) = true from decide_eq_true (by omega)]
        refine ev_succ (fun k => digits_Text.j0.eq_2 ..) ?_
        refine ev_pos rfl (ev_pos (by rw [mkS_size]; simp) ?_)
        simp only [lit_mkS, mkS_append]
        refine ev_sub (digits_j1 x (by omega) h1 _ (by simp)) ?_
        unfold decText
        rw [if_neg hmin, if_pos hneg, hq, dec_small 0 (by omega)]
        rfl
      · have hf : strconv_FormatInt.f (-((x.natAbs / 10000 : Nat) : Int)) 10 = some (mkS (45 :: Lib.decDigits (x.natAbs / 10000))) := by
          unfold strconv_FormatInt.f
          rw [if_pos ⟨by omega, by omega, rfl⟩, itoa_neg (by omega), Int.natAbs_neg, Int.natAbs_natCast]
        refine ev_eq hf ?_
        refine ev_pos hneg ?_
        rw [show decide (x > -10000) = false from decide_eq_false (by omega)]
        refine ev_succ (fun k => digits_Text.j0.eq_2 ..) ?_
        refine ev_neg (by simp) ?_
        refine ev_sub (digits_j1 x (by omega) h1 _ (by have := dec_len20 (x.natAbs / 10000) (by omega); simp; omega)) ?_
        unfold decText
        rw [if_neg hmin, if_pos hneg]
        simp
    · have hd : wrap64 (Int.tdiv x 10000) = ((x.natAbs / 10000 : Nat) : Int) := by
        rw [tdv (by omega), w64] <;> omega
      rw [hd]
      have hf : strconv_FormatInt.f ((x.natAbs / 10000 : Nat) : Int) 10 = some (mkS (Lib.decDigits (x.natAbs / 10000))) := by
        unfold strconv_FormatInt.f
        rw [if_pos ⟨by omega, by omega, rfl⟩, itoa_nn (by omega), Int.toNat_natCast]
      refine ev_eq hf ?_
      refine ev_neg hneg ?_
      refine ev_succ (fun k => digits_Text.j0.eq_2 ..) ?_
      refine ev_neg (by simp) ?_
      refine ev_sub (digits_j1 x (by omega) h1 _ (by have := dec_len20 (x.natAbs / 10000) (by omega); omega)) ?_
      unfold decText
      rw [if_neg hmin, if_neg hneg]
      simp
end Go.Proofs.YtaljjdodjimgdaaGreatDoor.P
namespace Go.Proofs.YtaljjdodjimgdaaGreatDoor.P
open Go.RowKit Go.Proofs.YtaljjdodjimgdaaGreatDoorW.PrintWords Go.Proofs.YtaljjdodjimgdaaGreatDoorW.PrintLast Go.Proofs.YtaljjdodjimgdaaGreatDoorW.PrintMore
attribute [local go_sem] max2_int min2_int max_two min_two max_three min_three max_four min_four
set_option linter.unusedVariables false
set_option linter.unusedSimpArgs false
def dec_Add.f (a0 : Int) (a1 : Int) : Option (Int × Bool) := (dec_May.f a0).bind fun t122 => (if t122 = true then ((dec_May.f a1).bind fun t123 => (if t123 = true then ((dec_May.f (wrap64 (a0 + a1))).bind fun t124 => (if t124 = true then (if a0 > 0 then (if a1 > 0 then (if (wrap64 (a0 + a1)) < 0 then (some (0, false)) else (if a0 < 0 then (if a1 < 0 then (if (wrap64 (a0 + a1)) ≥ 0 then (some (0, false)) else (some (wrap64 (a0 + a1), true))) else (some (wrap64 (a0 + a1), true))) else (some (wrap64 (a0 + a1), true)))) else (if a0 < 0 then (if a1 < 0 then (if (wrap64 (a0 + a1)) ≥ 0 then (some (0, false)) else (some (wrap64 (a0 + a1), true))) else (some (wrap64 (a0 + a1), true))) else (some (wrap64 (a0 + a1), true)))) else (if a0 < 0 then (if a1 < 0 then (if (wrap64 (a0 + a1)) ≥ 0 then (some (0, false)) else (some (wrap64 (a0 + a1), true))) else (some (wrap64 (a0 + a1), true))) else (some (wrap64 (a0 + a1), true)))) else (some (0, false)))) else (some (0, false)))) else (some (0, false)))
set_option maxHeartbeats 8000000 in
set_option maxRecDepth 100000 in
theorem dec_Add.calls (a0 : Int) (a1 : Int) (r1 : Int) (r2 : Bool) (w : World) (h : dec_Add.f a0 a1 = some (r1, r2)) :
  Calls Tryz.prog 77 #[.int .i64 a0, .int .i64 a1] w fun e w' => e = .returned (.tuple #[.int .i64 r1, .bool r2]) ∧ Drawn0 w w' := by
 have H : ((dec_May.f a0).bind fun t122 => (if t122 = true then ((dec_May.f a1).bind fun t123 => (if t123 = true then ((dec_May.f (wrap64 (a0 + a1))).bind fun t124 => (if t124 = true then (if a0 > 0 then (if a1 > 0 then (if (wrap64 (a0 + a1)) < 0 then (some (0, false)) else (if a0 < 0 then (if a1 < 0 then (if (wrap64 (a0 + a1)) ≥ 0 then (some (0, false)) else (some (wrap64 (a0 + a1), true))) else (some (wrap64 (a0 + a1), true))) else (some (wrap64 (a0 + a1), true)))) else (if a0 < 0 then (if a1 < 0 then (if (wrap64 (a0 + a1)) ≥ 0 then (some (0, false)) else (some (wrap64 (a0 + a1), true))) else (some (wrap64 (a0 + a1), true))) else (some (wrap64 (a0 + a1), true)))) else (if a0 < 0 then (if a1 < 0 then (if (wrap64 (a0 + a1)) ≥ 0 then (some (0, false)) else (some (wrap64 (a0 + a1), true))) else (some (wrap64 (a0 + a1), true))) else (some (wrap64 (a0 + a1), true)))) else (some (0, false)))) else (some (0, false)))) else (some (0, false)))) = some (r1, r2) := h
 clear h
 replace H := Option.bind_eq_some_iff.mp H
 obtain ⟨t122, A30, H⟩ := H
 replace H : (if t122 = true then ((dec_May.f a1).bind fun t123 => (if t123 = true then ((dec_May.f (wrap64 (a0 + a1))).bind fun t124 => (if t124 = true then (if a0 > 0 then (if a1 > 0 then (if (wrap64 (a0 + a1)) < 0 then (some (0, false)) else (if a0 < 0 then (if a1 < 0 then (if (wrap64 (a0 + a1)) ≥ 0 then (some (0, false)) else (some (wrap64 (a0 + a1), true))) else (some (wrap64 (a0 + a1), true))) else (some (wrap64 (a0 + a1), true)))) else (if a0 < 0 then (if a1 < 0 then (if (wrap64 (a0 + a1)) ≥ 0 then (some (0, false)) else (some (wrap64 (a0 + a1), true))) else (some (wrap64 (a0 + a1), true))) else (some (wrap64 (a0 + a1), true)))) else (if a0 < 0 then (if a1 < 0 then (if (wrap64 (a0 + a1)) ≥ 0 then (some (0, false)) else (some (wrap64 (a0 + a1), true))) else (some (wrap64 (a0 + a1), true))) else (some (wrap64 (a0 + a1), true)))) else (some (0, false)))) else (some (0, false)))) else (some (0, false))) = some (r1, r2) := H
 have A3 := Aside0.mk A30
 clear A30
 by_cases c4 : t122 = true
 ·subst c4
  have H1 : ((dec_May.f a1).bind fun t123 => (if t123 = true then ((dec_May.f (wrap64 (a0 + a1))).bind fun t124 => (if t124 = true then (if a0 > 0 then (if a1 > 0 then (if (wrap64 (a0 + a1)) < 0 then (some (0, false)) else (if a0 < 0 then (if a1 < 0 then (if (wrap64 (a0 + a1)) ≥ 0 then (some (0, false)) else (some (wrap64 (a0 + a1), true))) else (some (wrap64 (a0 + a1), true))) else (some (wrap64 (a0 + a1), true)))) else (if a0 < 0 then (if a1 < 0 then (if (wrap64 (a0 + a1)) ≥ 0 then (some (0, false)) else (some (wrap64 (a0 + a1), true))) else (some (wrap64 (a0 + a1), true))) else (some (wrap64 (a0 + a1), true)))) else (if a0 < 0 then (if a1 < 0 then (if (wrap64 (a0 + a1)) ≥ 0 then (some (0, false)) else (some (wrap64 (a0 + a1), true))) else (some (wrap64 (a0 + a1), true))) else (some (wrap64 (a0 + a1), true)))) else (some (0, false)))) else (some (0, false)))) = some (r1, r2) := by rw [if_pos rfl] at H; exact H
  clear H
  have H := H1
  clear H1
  replace H := Option.bind_eq_some_iff.mp H
  obtain ⟨t123, A50, H⟩ := H
  replace H : (if t123 = true then ((dec_May.f (wrap64 (a0 + a1))).bind fun t124 => (if t124 = true then (if a0 > 0 then (if a1 > 0 then (if (wrap64 (a0 + a1)) < 0 then (some (0, false)) else (if a0 < 0 then (if a1 < 0 then (if (wrap64 (a0 + a1)) ≥ 0 then (some (0, false)) else (some (wrap64 (a0 + a1), true))) else (some (wrap64 (a0 + a1), true))) else (some (wrap64 (a0 + a1), true)))) else (if a0 < 0 then (if a1 < 0 then (if (wrap64 (a0 + a1)) ≥ 0 then (some (0, false)) else (some (wrap64 (a0 + a1), true))) else (some (wrap64 (a0 + a1), true))) else (some (wrap64 (a0 + a1), true)))) else (if a0 < 0 then (if a1 < 0 then (if (wrap64 (a0 + a1)) ≥ 0 then (some (0, false)) else (some (wrap64 (a0 + a1), true))) else (some (wrap64 (a0 + a1), true))) else (some (wrap64 (a0 + a1), true)))) else (some (0, false)))) else (some (0, false))) = some (r1, r2) := H
  have A5 := Aside0.mk A50
  clear A50
  by_cases c6 : t123 = true
  ·subst c6
   have H1 : ((dec_May.f (wrap64 (a0 + a1))).bind fun t124 => (if t124 = true then (if a0 > 0 then (if a1 > 0 then (if (wrap64 (a0 + a1)) < 0 then (some (0, false)) else (if a0 < 0 then (if a1 < 0 then (if (wrap64 (a0 + a1)) ≥ 0 then (some (0, false)) else (some (wrap64 (a0 + a1), true))) else (some (wrap64 (a0 + a1), true))) else (some (wrap64 (a0 + a1), true)))) else (if a0 < 0 then (if a1 < 0 then (if (wrap64 (a0 + a1)) ≥ 0 then (some (0, false)) else (some (wrap64 (a0 + a1), true))) else (some (wrap64 (a0 + a1), true))) else (some (wrap64 (a0 + a1), true)))) else (if a0 < 0 then (if a1 < 0 then (if (wrap64 (a0 + a1)) ≥ 0 then (some (0, false)) else (some (wrap64 (a0 + a1), true))) else (some (wrap64 (a0 + a1), true))) else (some (wrap64 (a0 + a1), true)))) else (some (0, false)))) = some (r1, r2) := by rw [if_pos rfl] at H; exact H
   clear H
   have H := H1
   clear H1
   replace H := Option.bind_eq_some_iff.mp H
   obtain ⟨t124, A70, H⟩ := H
   replace H : (if t124 = true then (if a0 > 0 then (if a1 > 0 then (if (wrap64 (a0 + a1)) < 0 then (some (0, false)) else (if a0 < 0 then (if a1 < 0 then (if (wrap64 (a0 + a1)) ≥ 0 then (some (0, false)) else (some (wrap64 (a0 + a1), true))) else (some (wrap64 (a0 + a1), true))) else (some (wrap64 (a0 + a1), true)))) else (if a0 < 0 then (if a1 < 0 then (if (wrap64 (a0 + a1)) ≥ 0 then (some (0, false)) else (some (wrap64 (a0 + a1), true))) else (some (wrap64 (a0 + a1), true))) else (some (wrap64 (a0 + a1), true)))) else (if a0 < 0 then (if a1 < 0 then (if (wrap64 (a0 + a1)) ≥ 0 then (some (0, false)) else (some (wrap64 (a0 + a1), true))) else (some (wrap64 (a0 + a1), true))) else (some (wrap64 (a0 + a1), true)))) else (some (0, false))) = some (r1, r2) := H
   have A7 := Aside0.mk A70
   clear A70
   by_cases c8 : t124 = true
   ·subst c8
    have H1 : (if a0 > 0 then (if a1 > 0 then (if (wrap64 (a0 + a1)) < 0 then (some (0, false)) else (if a0 < 0 then (if a1 < 0 then (if (wrap64 (a0 + a1)) ≥ 0 then (some (0, false)) else (some (wrap64 (a0 + a1), true))) else (some (wrap64 (a0 + a1), true))) else (some (wrap64 (a0 + a1), true)))) else (if a0 < 0 then (if a1 < 0 then (if (wrap64 (a0 + a1)) ≥ 0 then (some (0, false)) else (some (wrap64 (a0 + a1), true))) else (some (wrap64 (a0 + a1), true))) else (some (wrap64 (a0 + a1), true)))) else (if a0 < 0 then (if a1 < 0 then (if (wrap64 (a0 + a1)) ≥ 0 then (some (0, false)) else (some (wrap64 (a0 + a1), true))) else (some (wrap64 (a0 + a1), true))) else (some (wrap64 (a0 + a1), true)))) = some (r1, r2) := by rw [if_pos rfl] at H; exact H
    clear H
    have H := H1
    clear H1
    by_cases c9 : a0 > 0
    ·rw [if_pos c9] at H
     have c9b0 : decide (0 < a0) = true := decide_eq_true c9
     clear c9
     by_cases c10 : a1 > 0
     ·rw [if_pos c10] at H
      have c10b0 : decide (0 < a1) = true := decide_eq_true c10
      clear c10
      by_cases c11 : (wrap64 (a0 + a1)) < 0
      ·rw [if_pos c11] at H
       have c11b0 : decide ((wrap64 (a0 + a1)) < 0) = true := decide_eq_true c11
       clear c11
       simp only [Option.some.injEq, Prod.mk.injEq] at H
       obtain ⟨rfl, rfl⟩ := H
       go_enter Tryz.func77, Tryz.ntmps77
       go_wp2_with (first | ((with_reducible refine gate_callee (f := 51) rfl ?_); refine goesL_ (some 11) rfl rfl Tryz.func51 (by kernel_rfl) rfl #[.int .i64 a0] rfl (by (try simp only [List.map_toArray, List.map_cons, List.map_nil]); first | done | rfl | (simp only [List.length_drop, List.length_take]; rfl)) ?_; (with_reducible refine (dec_May.calls a0 true _ A3.out).mono ?_); rintro e w' ⟨rfl, ⟨nd, rfl⟩⟩; refine ⟨_, rfl, ?_⟩) | (go_at_call 51; (with_reducible refine (dec_May.calls a1 true _ A5.out).mono ?_); rintro e w' ⟨rfl, ⟨nd, rfl⟩⟩) | (go_at_call 51; (with_reducible refine (dec_May.calls (wrap64 (a0 + a1)) true _ A7.out).mono ?_); rintro e w' ⟨rfl, ⟨nd, rfl⟩⟩))
       go_ret2
       exact ⟨by first | rfl | (simp; done) | (simp [*]; done), by repeat (first | exact Drawn0.refl _ | apply Drawn0.step)⟩
      ·rw [if_neg c11] at H
       have c11b0 : decide ((wrap64 (a0 + a1)) < 0) = false := decide_eq_false c11
       clear c11
       by_cases c12 : a0 < 0
       ·rw [if_pos c12] at H
        have c12b0 : decide (a0 < 0) = true := decide_eq_true c12
        clear c12
        by_cases c13 : a1 < 0
        ·rw [if_pos c13] at H
         have c13b0 : decide (a1 < 0) = true := decide_eq_true c13
         clear c13
         by_cases c14 : (wrap64 (a0 + a1)) ≥ 0
         ·rw [if_pos c14] at H
          have c14b0 : decide (0 ≤ (wrap64 (a0 + a1))) = true := decide_eq_true c14
          clear c14
          simp only [Option.some.injEq, Prod.mk.injEq] at H
          obtain ⟨rfl, rfl⟩ := H
          go_enter Tryz.func77, Tryz.ntmps77
          go_wp2_with (first | ((with_reducible refine gate_callee (f := 51) rfl ?_); refine goesL_ (some 11) rfl rfl Tryz.func51 (by kernel_rfl) rfl #[.int .i64 a0] rfl (by (try simp only [List.map_toArray, List.map_cons, List.map_nil]); first | done | rfl | (simp only [List.length_drop, List.length_take]; rfl)) ?_; (with_reducible refine (dec_May.calls a0 true _ A3.out).mono ?_); rintro e w' ⟨rfl, ⟨nd, rfl⟩⟩; refine ⟨_, rfl, ?_⟩) | (go_at_call 51; (with_reducible refine (dec_May.calls a1 true _ A5.out).mono ?_); rintro e w' ⟨rfl, ⟨nd, rfl⟩⟩) | (go_at_call 51; (with_reducible refine (dec_May.calls (wrap64 (a0 + a1)) true _ A7.out).mono ?_); rintro e w' ⟨rfl, ⟨nd, rfl⟩⟩))
          go_ret2
          exact ⟨by first | rfl | (simp; done) | (simp [*]; done), by repeat (first | exact Drawn0.refl _ | apply Drawn0.step)⟩
         ·rw [if_neg c14] at H
          have c14b0 : decide (0 ≤ (wrap64 (a0 + a1))) = false := decide_eq_false c14
          clear c14
          simp only [Option.some.injEq, Prod.mk.injEq] at H
          obtain ⟨rfl, rfl⟩ := H
          go_enter Tryz.func77, Tryz.ntmps77
          go_wp2_with (first | ((with_reducible refine gate_callee (f := 51) rfl ?_); refine goesL_ (some 11) rfl rfl Tryz.func51 (by kernel_rfl) rfl #[.int .i64 a0] rfl (by (try simp only [List.map_toArray, List.map_cons, List.map_nil]); first | done | rfl | (simp only [List.length_drop, List.length_take]; rfl)) ?_; (with_reducible refine (dec_May.calls a0 true _ A3.out).mono ?_); rintro e w' ⟨rfl, ⟨nd, rfl⟩⟩; refine ⟨_, rfl, ?_⟩) | (go_at_call 51; (with_reducible refine (dec_May.calls a1 true _ A5.out).mono ?_); rintro e w' ⟨rfl, ⟨nd, rfl⟩⟩) | (go_at_call 51; (with_reducible refine (dec_May.calls (wrap64 (a0 + a1)) true _ A7.out).mono ?_); rintro e w' ⟨rfl, ⟨nd, rfl⟩⟩))
          go_ret2
          exact ⟨by first | rfl | (simp; done) | (simp [*]; done), by repeat (first | exact Drawn0.refl _ | apply Drawn0.step)⟩
        ·rw [if_neg c13] at H
         have c13b0 : decide (a1 < 0) = false := decide_eq_false c13
         clear c13
         simp only [Option.some.injEq, Prod.mk.injEq] at H
         obtain ⟨rfl, rfl⟩ := H
         go_enter Tryz.func77, Tryz.ntmps77
         go_wp2_with (first | ((with_reducible refine gate_callee (f := 51) rfl ?_); refine goesL_ (some 11) rfl rfl Tryz.func51 (by kernel_rfl) rfl #[.int .i64 a0] rfl (by (try simp only [List.map_toArray, List.map_cons, List.map_nil]); first | done | rfl | (simp only [List.length_drop, List.length_take]; rfl)) ?_; (with_reducible refine (dec_May.calls a0 true _ A3.out).mono ?_); rintro e w' ⟨rfl, ⟨nd, rfl⟩⟩; refine ⟨_, rfl, ?_⟩) | (go_at_call 51; (with_reducible refine (dec_May.calls a1 true _ A5.out).mono ?_); rintro e w' ⟨rfl, ⟨nd, rfl⟩⟩) | (go_at_call 51; (with_reducible refine (dec_May.calls (wrap64 (a0 + a1)) true _ A7.out).mono ?_); rintro e w' ⟨rfl, ⟨nd, rfl⟩⟩))
         go_ret2
         exact ⟨by first | rfl | (simp; done) | (simp [*]; done), by repeat (first | exact Drawn0.refl _ | apply Drawn0.step)⟩
       ·rw [if_neg c12] at H
        have c12b0 : decide (a0 < 0) = false := decide_eq_false c12
        clear c12
        simp only [Option.some.injEq, Prod.mk.injEq] at H
        obtain ⟨rfl, rfl⟩ := H
        go_enter Tryz.func77, Tryz.ntmps77
        go_wp2_with (first | ((with_reducible refine gate_callee (f := 51) rfl ?_); refine goesL_ (some 11) rfl rfl Tryz.func51 (by kernel_rfl) rfl #[.int .i64 a0] rfl (by (try simp only [List.map_toArray, List.map_cons, List.map_nil]); first | done | rfl | (simp only [List.length_drop, List.length_take]; rfl)) ?_; (with_reducible refine (dec_May.calls a0 true _ A3.out).mono ?_); rintro e w' ⟨rfl, ⟨nd, rfl⟩⟩; refine ⟨_, rfl, ?_⟩) | (go_at_call 51; (with_reducible refine (dec_May.calls a1 true _ A5.out).mono ?_); rintro e w' ⟨rfl, ⟨nd, rfl⟩⟩) | (go_at_call 51; (with_reducible refine (dec_May.calls (wrap64 (a0 + a1)) true _ A7.out).mono ?_); rintro e w' ⟨rfl, ⟨nd, rfl⟩⟩))
        go_ret2
        exact ⟨by first | rfl | (simp; done) | (simp [*]; done), by repeat (first | exact Drawn0.refl _ | apply Drawn0.step)⟩
     ·rw [if_neg c10] at H
      have c10b0 : decide (0 < a1) = false := decide_eq_false c10
      clear c10
      by_cases c15 : a0 < 0
      ·rw [if_pos c15] at H
       have c15b0 : decide (a0 < 0) = true := decide_eq_true c15
       clear c15
       by_cases c16 : a1 < 0
       ·rw [if_pos c16] at H
        have c16b0 : decide (a1 < 0) = true := decide_eq_true c16
        clear c16
        by_cases c17 : (wrap64 (a0 + a1)) ≥ 0
        ·rw [if_pos c17] at H
         have c17b0 : decide (0 ≤ (wrap64 (a0 + a1))) = true := decide_eq_true c17
         clear c17
         simp only [Option.some.injEq, Prod.mk.injEq] at H
         obtain ⟨rfl, rfl⟩ := H
         go_enter Tryz.func77, Tryz.ntmps77
         go_wp2_with (first | ((with_reducible refine gate_callee (f := 51) rfl ?_); refine goesL_ (some 11) rfl rfl Tryz.func51 (by kernel_rfl) rfl #[.int .i64 a0] rfl (by (try simp only [List.map_toArray, List.map_cons, List.map_nil]); first | done | rfl | (simp only [List.length_drop, List.length_take]; rfl)) ?_; (with_reducible refine (dec_May.calls a0 true _ A3.out).mono ?_); rintro e w' ⟨rfl, ⟨nd, rfl⟩⟩; refine ⟨_, rfl, ?_⟩) | (go_at_call 51; (with_reducible refine (dec_May.calls a1 true _ A5.out).mono ?_); rintro e w' ⟨rfl, ⟨nd, rfl⟩⟩) | (go_at_call 51; (with_reducible refine (dec_May.calls (wrap64 (a0 + a1)) true _ A7.out).mono ?_); rintro e w' ⟨rfl, ⟨nd, rfl⟩⟩))
         go_ret2
         exact ⟨by first | rfl | (simp; done) | (simp [*]; done), by repeat (first | exact Drawn0.refl _ | apply Drawn0.step)⟩
        ·rw [if_neg c17] at H
         have c17b0 : decide (0 ≤ (wrap64 (a0 + a1))) = false := decide_eq_false c17
         clear c17
         simp only [Option.some.injEq, Prod.mk.injEq] at H
         obtain ⟨rfl, rfl⟩ := H
         go_enter Tryz.func77, Tryz.ntmps77
         go_wp2_with (first | ((with_reducible refine gate_callee (f := 51) rfl ?_); refine goesL_ (some 11) rfl rfl Tryz.func51 (by kernel_rfl) rfl #[.int .i64 a0] rfl (by (try simp only [List.map_toArray, List.map_cons, List.map_nil]); first | done | rfl | (simp only [List.length_drop, List.length_take]; rfl)) ?_; (with_reducible refine (dec_May.calls a0 true _ A3.out).mono ?_); rintro e w' ⟨rfl, ⟨nd, rfl⟩⟩; refine ⟨_, rfl, ?_⟩) | (go_at_call 51; (with_reducible refine (dec_May.calls a1 true _ A5.out).mono ?_); rintro e w' ⟨rfl, ⟨nd, rfl⟩⟩) | (go_at_call 51; (with_reducible refine (dec_May.calls (wrap64 (a0 + a1)) true _ A7.out).mono ?_); rintro e w' ⟨rfl, ⟨nd, rfl⟩⟩))
         go_ret2
         exact ⟨by first | rfl | (simp; done) | (simp [*]; done), by repeat (first | exact Drawn0.refl _ | apply Drawn0.step)⟩
       ·rw [if_neg c16] at H
        have c16b0 : decide (a1 < 0) = false := decide_eq_false c16
        clear c16
        simp only [Option.some.injEq, Prod.mk.injEq] at H
        obtain ⟨rfl, rfl⟩ := H
        go_enter Tryz.func77, Tryz.ntmps77
        go_wp2_with (first | ((with_reducible refine gate_callee (f := 51) rfl ?_); refine goesL_ (some 11) rfl rfl Tryz.func51 (by kernel_rfl) rfl #[.int .i64 a0] rfl (by (try simp only [List.map_toArray, List.map_cons, List.map_nil]); first | done | rfl | (simp only [List.length_drop, List.length_take]; rfl)) ?_; (with_reducible refine (dec_May.calls a0 true _ A3.out).mono ?_); rintro e w' ⟨rfl, ⟨nd, rfl⟩⟩; refine ⟨_, rfl, ?_⟩) | (go_at_call 51; (with_reducible refine (dec_May.calls a1 true _ A5.out).mono ?_); rintro e w' ⟨rfl, ⟨nd, rfl⟩⟩) | (go_at_call 51; (with_reducible refine (dec_May.calls (wrap64 (a0 + a1)) true _ A7.out).mono ?_); rintro e w' ⟨rfl, ⟨nd, rfl⟩⟩))
        go_ret2
        exact ⟨by first | rfl | (simp; done) | (simp [*]; done), by repeat (first | exact Drawn0.refl _ | apply Drawn0.step)⟩
      ·rw [if_neg c15] at H
       have c15b0 : decide (a0 < 0) = false := decide_eq_false c15
       clear c15
       simp only [Option.some.injEq, Prod.mk.injEq] at H
       obtain ⟨rfl, rfl⟩ := H
       go_enter Tryz.func77, Tryz.ntmps77
       go_wp2_with (first | ((with_reducible refine gate_callee (f := 51) rfl ?_); refine goesL_ (some 11) rfl rfl Tryz.func51 (by kernel_rfl) rfl #[.int .i64 a0] rfl (by (try simp only [List.map_toArray, List.map_cons, List.map_nil]); first | done | rfl | (simp only [List.length_drop, List.length_take]; rfl)) ?_; (with_reducible refine (dec_May.calls a0 true _ A3.out).mono ?_); rintro e w' ⟨rfl, ⟨nd, rfl⟩⟩; refine ⟨_, rfl, ?_⟩) | (go_at_call 51; (with_reducible refine (dec_May.calls a1 true _ A5.out).mono ?_); rintro e w' ⟨rfl, ⟨nd, rfl⟩⟩) | (go_at_call 51; (with_reducible refine (dec_May.calls (wrap64 (a0 + a1)) true _ A7.out).mono ?_); rintro e w' ⟨rfl, ⟨nd, rfl⟩⟩))
       go_ret2
       exact ⟨by first | rfl | (simp; done) | (simp [*]; done), by repeat (first | exact Drawn0.refl _ | apply Drawn0.step)⟩
    ·rw [if_neg c9] at H
     have c9b0 : decide (0 < a0) = false := decide_eq_false c9
     clear c9
     by_cases c18 : a0 < 0
     ·rw [if_pos c18] at H
      have c18b0 : decide (a0 < 0) = true := decide_eq_true c18
      clear c18
      by_cases c19 : a1 < 0
      ·rw [if_pos c19] at H
       have c19b0 : decide (a1 < 0) = true := decide_eq_true c19
       clear c19
       by_cases c20 : (wrap64 (a0 + a1)) ≥ 0
       ·rw [if_pos c20] at H
        have c20b0 : decide (0 ≤ (wrap64 (a0 + a1))) = true := decide_eq_true c20
        clear c20
        simp only [Option.some.injEq, Prod.mk.injEq] at H
        obtain ⟨rfl, rfl⟩ := H
        go_enter Tryz.func77, Tryz.ntmps77
        go_wp2_with (first | ((with_reducible refine gate_callee (f := 51) rfl ?_); refine goesL_ (some 11) rfl rfl Tryz.func51 (by kernel_rfl) rfl #[.int .i64 a0] rfl (by (try simp only [List.map_toArray, List.map_cons, List.map_nil]); first | done | rfl | (simp only [List.length_drop, List.length_take]; rfl)) ?_; (with_reducible refine (dec_May.calls a0 true _ A3.out).mono ?_); rintro e w' ⟨rfl, ⟨nd, rfl⟩⟩; refine ⟨_, rfl, ?_⟩) | (go_at_call 51; (with_reducible refine (dec_May.calls a1 true _ A5.out).mono ?_); rintro e w' ⟨rfl, ⟨nd, rfl⟩⟩) | (go_at_call 51; (with_reducible refine (dec_May.calls (wrap64 (a0 + a1)) true _ A7.out).mono ?_); rintro e w' ⟨rfl, ⟨nd, rfl⟩⟩))
        go_ret2
        exact ⟨by first | rfl | (simp; done) | (simp [*]; done), by repeat (first | exact Drawn0.refl _ | apply Drawn0.step)⟩
       ·rw [if_neg c20] at H
        have c20b0 : decide (0 ≤ (wrap64 (a0 + a1))) = false := decide_eq_false c20
        clear c20
        simp only [Option.some.injEq, Prod.mk.injEq] at H
        obtain ⟨rfl, rfl⟩ := H
        go_enter Tryz.func77, Tryz.ntmps77
        go_wp2_with (first | ((with_reducible refine gate_callee (f := 51) rfl ?_); refine goesL_ (some 11) rfl rfl Tryz.func51 (by kernel_rfl) rfl #[.int .i64 a0] rfl (by (try simp only [List.map_toArray, List.map_cons, List.map_nil]); first | done | rfl | (simp only [List.length_drop, List.length_take]; rfl)) ?_; (with_reducible refine (dec_May.calls a0 true _ A3.out).mono ?_); rintro e w' ⟨rfl, ⟨nd, rfl⟩⟩; refine ⟨_, rfl, ?_⟩) | (go_at_call 51; (with_reducible refine (dec_May.calls a1 true _ A5.out).mono ?_); rintro e w' ⟨rfl, ⟨nd, rfl⟩⟩) | (go_at_call 51; (with_reducible refine (dec_May.calls (wrap64 (a0 + a1)) true _ A7.out).mono ?_); rintro e w' ⟨rfl, ⟨nd, rfl⟩⟩))
        go_ret2
        exact ⟨by first | rfl | (simp; done) | (simp [*]; done), by repeat (first | exact Drawn0.refl _ | apply Drawn0.step)⟩
      ·rw [if_neg c19] at H
       have c19b0 : decide (a1 < 0) = false := decide_eq_false c19
       clear c19
       simp only [Option.some.injEq, Prod.mk.injEq] at H
       obtain ⟨rfl, rfl⟩ := H
       go_enter Tryz.func77, Tryz.ntmps77
       go_wp2_with (first | ((with_reducible refine gate_callee (f := 51) rfl ?_); refine goesL_ (some 11) rfl rfl Tryz.func51 (by kernel_rfl) rfl #[.int .i64 a0] rfl (by (try simp only [List.map_toArray, List.map_cons, List.map_nil]); first | done | rfl | (simp only [List.length_drop, List.length_take]; rfl)) ?_; (with_reducible refine (dec_May.calls a0 true _ A3.out).mono ?_); rintro e w' ⟨rfl, ⟨nd, rfl⟩⟩; refine ⟨_, rfl, ?_⟩) | (go_at_call 51; (with_reducible refine (dec_May.calls a1 true _ A5.out).mono ?_); rintro e w' ⟨rfl, ⟨nd, rfl⟩⟩) | (go_at_call 51; (with_reducible refine (dec_May.calls (wrap64 (a0 + a1)) true _ A7.out).mono ?_); rintro e w' ⟨rfl, ⟨nd, rfl⟩⟩))
       go_ret2
       exact ⟨by first | rfl | (simp; done) | (simp [*]; done), by repeat (first | exact Drawn0.refl _ | apply Drawn0.step)⟩
     ·rw [if_neg c18] at H
      have c18b0 : decide (a0 < 0) = false := decide_eq_false c18
      clear c18
      simp only [Option.some.injEq, Prod.mk.injEq] at H
      obtain ⟨rfl, rfl⟩ := H
      go_enter Tryz.func77, Tryz.ntmps77
      go_wp2_with (first | ((with_reducible refine gate_callee (f := 51) rfl ?_); refine goesL_ (some 11) rfl rfl Tryz.func51 (by kernel_rfl) rfl #[.int .i64 a0] rfl (by (try simp only [List.map_toArray, List.map_cons, List.map_nil]); first | done | rfl | (simp only [List.length_drop, List.length_take]; rfl)) ?_; (with_reducible refine (dec_May.calls a0 true _ A3.out).mono ?_); rintro e w' ⟨rfl, ⟨nd, rfl⟩⟩; refine ⟨_, rfl, ?_⟩) | (go_at_call 51; (with_reducible refine (dec_May.calls a1 true _ A5.out).mono ?_); rintro e w' ⟨rfl, ⟨nd, rfl⟩⟩) | (go_at_call 51; (with_reducible refine (dec_May.calls (wrap64 (a0 + a1)) true _ A7.out).mono ?_); rintro e w' ⟨rfl, ⟨nd, rfl⟩⟩))
      go_ret2
      exact ⟨by first | rfl | (simp; done) | (simp [*]; done), by repeat (first | exact Drawn0.refl _ | apply Drawn0.step)⟩
   ·replace c8 := Bool.eq_false_iff.mpr c8
    subst c8
    have H1 : (some (0, false)) = some (r1, r2) := by rw [if_neg (show ¬ (false = true) by decide)] at H; exact H
    clear H
    have H := H1
    clear H1
    simp only [Option.some.injEq, Prod.mk.injEq] at H
    obtain ⟨rfl, rfl⟩ := H
    go_enter Tryz.func77, Tryz.ntmps77
    go_wp2_with (first | ((with_reducible refine gate_callee (f := 51) rfl ?_); refine goesL_ (some 11) rfl rfl Tryz.func51 (by kernel_rfl) rfl #[.int .i64 a0] rfl (by (try simp only [List.map_toArray, List.map_cons, List.map_nil]); first | done | rfl | (simp only [List.length_drop, List.length_take]; rfl)) ?_; (with_reducible refine (dec_May.calls a0 true _ A3.out).mono ?_); rintro e w' ⟨rfl, ⟨nd, rfl⟩⟩; refine ⟨_, rfl, ?_⟩) | (go_at_call 51; (with_reducible refine (dec_May.calls a1 true _ A5.out).mono ?_); rintro e w' ⟨rfl, ⟨nd, rfl⟩⟩) | (go_at_call 51; (with_reducible refine (dec_May.calls (wrap64 (a0 + a1)) false _ A7.out).mono ?_); rintro e w' ⟨rfl, ⟨nd, rfl⟩⟩))
    go_ret2
    exact ⟨by first | rfl | (simp; done) | (simp [*]; done), by repeat (first | exact Drawn0.refl _ | apply Drawn0.step)⟩
  ·replace c6 := Bool.eq_false_iff.mpr c6
   subst c6
   have H1 : (some (0, false)) = some (r1, r2) := by rw [if_neg (show ¬ (false = true) by decide)] at H; exact H
   clear H
   have H := H1
   clear H1
   simp only [Option.some.injEq, Prod.mk.injEq] at H
   obtain ⟨rfl, rfl⟩ := H
   go_enter Tryz.func77, Tryz.ntmps77
   go_wp2_with (first | ((with_reducible refine gate_callee (f := 51) rfl ?_); refine goesL_ (some 11) rfl rfl Tryz.func51 (by kernel_rfl) rfl #[.int .i64 a0] rfl (by (try simp only [List.map_toArray, List.map_cons, List.map_nil]); first | done | rfl | (simp only [List.length_drop, List.length_take]; rfl)) ?_; (with_reducible refine (dec_May.calls a0 true _ A3.out).mono ?_); rintro e w' ⟨rfl, ⟨nd, rfl⟩⟩; refine ⟨_, rfl, ?_⟩) | (go_at_call 51; (with_reducible refine (dec_May.calls a1 false _ A5.out).mono ?_); rintro e w' ⟨rfl, ⟨nd, rfl⟩⟩))
   go_ret2
   exact ⟨by first | rfl | (simp; done) | (simp [*]; done), by repeat (first | exact Drawn0.refl _ | apply Drawn0.step)⟩
 ·replace c4 := Bool.eq_false_iff.mpr c4
  subst c4
  have H1 : (some (0, false)) = some (r1, r2) := by rw [if_neg (show ¬ (false = true) by decide)] at H; exact H
  clear H
  have H := H1
  clear H1
  simp only [Option.some.injEq, Prod.mk.injEq] at H
  obtain ⟨rfl, rfl⟩ := H
  go_enter Tryz.func77, Tryz.ntmps77
  go_wp2_with (first | ((with_reducible refine gate_callee (f := 51) rfl ?_); refine goesL_ (some 11) rfl rfl Tryz.func51 (by kernel_rfl) rfl #[.int .i64 a0] rfl (by (try simp only [List.map_toArray, List.map_cons, List.map_nil]); first | done | rfl | (simp only [List.length_drop, List.length_take]; rfl)) ?_; (with_reducible refine (dec_May.calls a0 false _ A3.out).mono ?_); rintro e w' ⟨rfl, ⟨nd, rfl⟩⟩; refine ⟨_, rfl, ?_⟩))
  go_ret2
  exact ⟨by first | rfl | (simp; done) | (simp [*]; done), by repeat (first | exact Drawn0.refl _ | apply Drawn0.step)⟩
end Go.Proofs.YtaljjdodjimgdaaGreatDoor.P
namespace Go.Proofs.YtaljjdodjimgdaaGreatDoor.P
open Go.RowKit Go.Proofs.YtaljjdodjimgdaaGreatDoorW.PrintWords Go.Proofs.YtaljjdodjimgdaaGreatDoorW.PrintLast Go.Proofs.YtaljjdodjimgdaaGreatDoorW.PrintMore
attribute [local go_sem] max2_int min2_int max_two min_two max_three min_three max_four min_four
set_option linter.unusedVariables false
set_option linter.unusedSimpArgs false
def dec_Sign.f (a0 : Int) : Option (Int) := if a0 < 0 then (some (-1)) else (if a0 > 0 then (some 1) else (some 0))
set_option maxHeartbeats 8000000 in
set_option maxRecDepth 100000 in
theorem dec_Sign.calls (a0 : Int) (r : Int) (w : World) (h : dec_Sign.f a0 = some r) :
  Calls Tryz.prog 99 #[.int .i64 a0] w fun e w' => e = .returned (.int .i64 r) ∧ Drawn0 w w' := by
 have H : (if a0 < 0 then (some (-1)) else (if a0 > 0 then (some 1) else (some 0))) = some r := h
 clear h
 by_cases c2 : a0 < 0
 ·rw [if_pos c2] at H
  have c2b0 : decide (a0 < 0) = true := decide_eq_true c2
  clear c2
  obtain rfl := Option.some.inj H
  go_enter Tryz.func99, Tryz.ntmps99
  go_wp2
  go_ret
  exact ⟨by first | rfl | (simp; done) | (simp [*]; done), by repeat (first | exact Drawn0.refl _ | apply Drawn0.step)⟩
 ·rw [if_neg c2] at H
  have c2b0 : decide (a0 < 0) = false := decide_eq_false c2
  clear c2
  by_cases c3 : a0 > 0
  ·rw [if_pos c3] at H
   have c3b0 : decide (0 < a0) = true := decide_eq_true c3
   clear c3
   obtain rfl := Option.some.inj H
   go_enter Tryz.func99, Tryz.ntmps99
   go_wp2
   go_ret
   exact ⟨by first | rfl | (simp; done) | (simp [*]; done), by repeat (first | exact Drawn0.refl _ | apply Drawn0.step)⟩
  ·rw [if_neg c3] at H
   have c3b0 : decide (0 < a0) = false := decide_eq_false c3
   clear c3
   obtain rfl := Option.some.inj H
   go_enter Tryz.func99, Tryz.ntmps99
   go_wp2
   go_ret
   exact ⟨by first | rfl | (simp; done) | (simp [*]; done), by repeat (first | exact Drawn0.refl _ | apply Drawn0.step)⟩
end Go.Proofs.YtaljjdodjimgdaaGreatDoor.P
namespace Go.Proofs.YtaljjdodjimgdaaGreatDoor.P
open Go.RowKit Go.Proofs.YtaljjdodjimgdaaGreatDoorW.PrintWords Go.Proofs.YtaljjdodjimgdaaGreatDoorW.PrintLast Go.Proofs.YtaljjdodjimgdaaGreatDoorW.PrintMore
attribute [local go_sem] max2_int min2_int max_two min_two max_three min_three max_four min_four
set_option linter.unusedVariables false
set_option linter.unusedSimpArgs false
def dec_size.f (a0 : Int) : Option (Int) := if a0 < 0 then (some (IntKind.u64.wrap (wrap64 (-a0)))) else (some (IntKind.u64.wrap (a0)))
set_option maxHeartbeats 8000000 in
set_option maxRecDepth 100000 in
theorem dec_size.calls (a0 : Int) (r : Int) (w : World) (h : dec_size.f a0 = some r) :
  Calls Tryz.prog 96 #[.int .i64 a0] w fun e w' => e = .returned (.int .u64 r) ∧ Drawn0 w w' := by
 have H : (if a0 < 0 then (some (IntKind.u64.wrap (wrap64 (-a0)))) else (some (IntKind.u64.wrap (a0)))) = some r := h
 clear h
 by_cases c2 : a0 < 0
 ·rw [if_pos c2] at H
  have c2b0 : decide (a0 < 0) = true := decide_eq_true c2
  clear c2
  obtain rfl := Option.some.inj H
  go_enter Tryz.func96, Tryz.ntmps96
  go_wp2
  go_ret
  exact ⟨by first | rfl | (simp; done) | (simp [*]; done), by repeat (first | exact Drawn0.refl _ | apply Drawn0.step)⟩
 ·rw [if_neg c2] at H
  have c2b0 : decide (a0 < 0) = false := decide_eq_false c2
  clear c2
  obtain rfl := Option.some.inj H
  go_enter Tryz.func96, Tryz.ntmps96
  go_wp2
  go_ret
  exact ⟨by first | rfl | (simp; done) | (simp [*]; done), by repeat (first | exact Drawn0.refl _ | apply Drawn0.step)⟩
end Go.Proofs.YtaljjdodjimgdaaGreatDoor.P
namespace Go.Proofs.YtaljjdodjimgdaaGreatDoor.P
open Go.RowKit Go.Proofs.YtaljjdodjimgdaaGreatDoorW.PrintWords Go.Proofs.YtaljjdodjimgdaaGreatDoorW.PrintLast
def bits_Div64.f (a0 a1 a2 : Int) : Option (Int × Int) := if a0 = 0 ∧ 0 ≤ a1 ∧ a1 ≤ 18446744073709551615 ∧ 0 < a2 ∧ a2 ≤ 18446744073709551615 then some (a1 / a2, a1 % a2) else none
set_option maxRecDepth 100000 in
theorem div64_zero (a1 a2 : Int) (h1 : 0 ≤ a1) (h2 : a1 ≤ 18446744073709551615) (h3 : 0 < a2) (h4 : a2 ≤ 18446744073709551615) (w : World) :
    Calls Tryz.prog 98 #[.int .u64 0, .int .u64 a1, .int .u64 a2] w fun e w' => e = .returned (.tuple #[.int .u64 (a1 / a2), .int .u64 (a1 % a2)]) ∧ ∃ n, w' = w.drewN n := by
  have t1 : (a2 == 0) = false := beq_eq_false_iff_ne.mpr (by omega)
  have t2 : decide (a2 ≤ 0) = false := decide_eq_false (by omega)
  have t3 : ¬ a2 = 0 := by omega
  go_enter Tryz.func98, Tryz.ntmps98
  go_wp2
  go_quiet (fail)
  go_wp2
  go_ret2
  exact ⟨rfl, _, rfl⟩
theorem bits_Div64.calls (a0 a1 a2 : Int) (r1 r2 : Int) (w : World) (h : bits_Div64.f a0 a1 a2 = some (r1, r2)) :
    Calls Tryz.prog 98 #[.int .u64 a0, .int .u64 a1, .int .u64 a2] w fun e w' => e = .returned (.tuple #[.int .u64 r1, .int .u64 r2]) ∧ Below w.heap.size w w' := by
  unfold bits_Div64.f at h
  split at h
  · rename_i hs
    obtain ⟨rfl, h1, h2, h3, h4⟩ := hs
    have h5 := Option.some.inj h
    obtain rfl : _ = r1 := congrArg Prod.fst h5
    obtain rfl : _ = r2 := congrArg Prod.snd h5
    exact (div64_zero a1 a2 h1 h2 h3 h4 w).mono fun e w' ⟨he, hw⟩ => ⟨he, below_of_drewN hw⟩
  · cases h
end Go.Proofs.YtaljjdodjimgdaaGreatDoor.P
namespace Go.Proofs.YtaljjdodjimgdaaGreatDoor.P
open Go.RowKit Go.Proofs.YtaljjdodjimgdaaGreatDoorW.PrintWords Go.Proofs.YtaljjdodjimgdaaGreatDoorW.PrintLast Go.Proofs.YtaljjdodjimgdaaGreatDoorW.PrintMore
attribute [local go_sem] max2_int min2_int max_two min_two max_three min_three max_four min_four
set_option linter.unusedVariables false
set_option linter.unusedSimpArgs false
mutual
def dec_Scaled.j0 : Nat → Int → Int → Int → Bool → Option (Int × Bool)
 | 0, _, _, _, _ => none
 | k + 1, x0, x1, x2, x29 => if x29 = true then (some (0, false)) else ((dec_size.f x2).bind fun t112 => ((dec_size.f x0).bind fun t113 => ((dec_size.f x1).bind fun t114 => ((bits_Mul64.f t113 t114).bind fun bt115 => (if bt115.1 ≥ t112 then (some (0, false)) else ((bits_Div64.f bt115.1 bt115.2 t112).bind fun bt117 => (if bt117.2 ≥ (IntKind.u64.wrap (t112 - bt117.2)) then (dec_Scaled.j1 k x0 x1 x2 (IntKind.u64.wrap (bt117.1 + 1))) else (dec_Scaled.j1 k x0 x1 x2 bt117.1))))))))
def dec_Scaled.j1 : Nat → Int → Int → Int → Int → Option (Int × Bool)
 | 0, _, _, _, _ => none
 | k + 1, x0, x1, x2, x11 => if x11 > 9223372036854775807 then (some (0, false)) else ((dec_Sign.f x0).bind fun t119 => ((dec_Sign.f x1).bind fun t120 => ((dec_Sign.f x2).bind fun t121 => (if (wrap64 ((wrap64 (t119 * t120)) * t121)) < 0 then (some (wrap64 (-(wrap64 (x11))), true)) else (some (wrap64 (x11), true))))))
end
def dec_Scaled.f (k : Nat) (a0 : Int) (a1 : Int) (a2 : Int) : Option (Int × Bool) := (dec_May.f a0).bind fun t109 => (if t109 = true then ((dec_May.f a1).bind fun t110 => (if t110 = true then ((dec_May.f a2).bind fun t111 => (if t111 = true then (dec_Scaled.j0 k a0 a1 a2 (a2 == 0)) else (dec_Scaled.j0 k a0 a1 a2 true))) else (dec_Scaled.j0 k a0 a1 a2 true))) else (dec_Scaled.j0 k a0 a1 a2 true))
theorem dec_Scaled.mono_l : ∀ k, (∀ y0 y1 y2 y3, LeO (dec_Scaled.j0 k y0 y1 y2 y3) (dec_Scaled.j0 (k + 1) y0 y1 y2 y3)) ∧ (∀ y0 y1 y2 y3, LeO (dec_Scaled.j1 k y0 y1 y2 y3) (dec_Scaled.j1 (k + 1) y0 y1 y2 y3))
 | 0 => ⟨fun _ _ _ _ r h => by simp [dec_Scaled.j0] at h, fun _ _ _ _ r h => by simp [dec_Scaled.j1] at h⟩
 | k + 1 => by
  obtain ⟨ih0, ih1⟩ := dec_Scaled.mono_l k
  refine ⟨?_, ?_⟩
  ·intro y0 y1 y2 y3
   unfold dec_Scaled.j0
   repeat' first
   | (with_reducible exact ih0 _ _ _ _)
   | (with_reducible exact ih1 _ _ _ _)
   | (with_reducible exact LeO.refl _)
   | (with_reducible exact LeO.none _)
   | (with_reducible refine LeO.ite ?_ ?_)
   | (with_reducible refine LeO.bind ?_ (fun _ => ?_))
   | exact ih0 _ _ _ _
   | exact ih1 _ _ _ _
   | exact LeO.none _
   | refine LeO.ite ?_ ?_
   | refine LeO.bind ?_ (fun _ => ?_)
  ·intro y0 y1 y2 y3
   unfold dec_Scaled.j1
   repeat' first
   | (with_reducible exact ih0 _ _ _ _)
   | (with_reducible exact ih1 _ _ _ _)
   | (with_reducible exact LeO.refl _)
   | (with_reducible exact LeO.none _)
   | (with_reducible refine LeO.ite ?_ ?_)
   | (with_reducible refine LeO.bind ?_ (fun _ => ?_))
   | exact ih0 _ _ _ _
   | exact ih1 _ _ _ _
   | exact LeO.none _
   | refine LeO.ite ?_ ?_
   | refine LeO.bind ?_ (fun _ => ?_)
theorem dec_Scaled.mono : ∀ a0 a1 a2 k, LeO (dec_Scaled.f k a0 a1 a2) (dec_Scaled.f (k + 1) a0 a1 a2) := by
 intro a0 a1 a2 k
 obtain ⟨ih0, ih1⟩ := dec_Scaled.mono_l k
 unfold dec_Scaled.f
 repeat' first
   | (with_reducible exact ih0 _ _ _ _)
   | (with_reducible exact ih1 _ _ _ _)
   | (with_reducible exact LeO.refl _)
   | (with_reducible exact LeO.none _)
   | (with_reducible refine LeO.ite ?_ ?_)
   | (with_reducible refine LeO.bind ?_ (fun _ => ?_))
   | exact ih0 _ _ _ _
   | exact ih1 _ _ _ _
   | exact LeO.none _
   | refine LeO.ite ?_ ?_
   | refine LeO.bind ?_ (fun _ => ?_)
set_option maxHeartbeats 8000000 in
set_option maxRecDepth 100000 in
theorem dec_Scaled.calls (k : Nat) (a0 : Int) (a1 : Int) (a2 : Int) (r1 : Int) (r2 : Bool) (w : World) (h : dec_Scaled.f k a0 a1 a2 = some (r1, r2)) :
  Calls Tryz.prog 76 #[.int .i64 a0, .int .i64 a1, .int .i64 a2] w fun e w' => e = .returned (.tuple #[.int .i64 r1, .bool r2]) ∧ Below w.heap.size w w' := by
 have HB := Aside0.mk (Below.refl w.heap.size w)
 have H : ((dec_May.f a0).bind fun t109 => (if t109 = true then ((dec_May.f a1).bind fun t110 => (if t110 = true then ((dec_May.f a2).bind fun t111 => (if t111 = true then (dec_Scaled.j0 k a0 a1 a2 (a2 == 0)) else (dec_Scaled.j0 k a0 a1 a2 true))) else (dec_Scaled.j0 k a0 a1 a2 true))) else (dec_Scaled.j0 k a0 a1 a2 true))) = some (r1, r2) := h
 clear h
 have HC4 := Aside0.mk H
 clear H
 go_enter Tryz.func76, Tryz.ntmps76
 go_upto_region 1 with (fail)
 go_cut [29] (fun v29 wc => ∃ (kq : Nat) (x29_3 : Bool), v29 = .bool x29_3 ∧ Aside0 (dec_Scaled.j0 kq a0 a1 a2 x29_3 = some (r1, r2)) ∧ Aside0 (kq ≤ k) ∧ Aside0 (Below w.heap.size w wc))
 case first =>
  have H := HC4.out
  clear HC4
  replace H := Option.bind_eq_some_iff.mp H
  obtain ⟨t109, A50, H⟩ := H
  replace H : (if t109 = true then ((dec_May.f a1).bind fun t110 => (if t110 = true then ((dec_May.f a2).bind fun t111 => (if t111 = true then (dec_Scaled.j0 k a0 a1 a2 (a2 == 0)) else (dec_Scaled.j0 k a0 a1 a2 true))) else (dec_Scaled.j0 k a0 a1 a2 true))) else (dec_Scaled.j0 k a0 a1 a2 true)) = some (r1, r2) := H
  have A5 := Aside0.mk A50
  clear A50
  by_cases c6 : t109 = true
  ·subst c6
   have H1 : ((dec_May.f a1).bind fun t110 => (if t110 = true then ((dec_May.f a2).bind fun t111 => (if t111 = true then (dec_Scaled.j0 k a0 a1 a2 (a2 == 0)) else (dec_Scaled.j0 k a0 a1 a2 true))) else (dec_Scaled.j0 k a0 a1 a2 true))) = some (r1, r2) := by rw [if_pos rfl] at H; exact H
   clear H
   have H := H1
   clear H1
   replace H := Option.bind_eq_some_iff.mp H
   obtain ⟨t110, A70, H⟩ := H
   replace H : (if t110 = true then ((dec_May.f a2).bind fun t111 => (if t111 = true then (dec_Scaled.j0 k a0 a1 a2 (a2 == 0)) else (dec_Scaled.j0 k a0 a1 a2 true))) else (dec_Scaled.j0 k a0 a1 a2 true)) = some (r1, r2) := H
   have A7 := Aside0.mk A70
   clear A70
   by_cases c8 : t110 = true
   ·subst c8
    have H1 : ((dec_May.f a2).bind fun t111 => (if t111 = true then (dec_Scaled.j0 k a0 a1 a2 (a2 == 0)) else (dec_Scaled.j0 k a0 a1 a2 true))) = some (r1, r2) := by rw [if_pos rfl] at H; exact H
    clear H
    have H := H1
    clear H1
    replace H := Option.bind_eq_some_iff.mp H
    obtain ⟨t111, A90, H⟩ := H
    replace H : (if t111 = true then (dec_Scaled.j0 k a0 a1 a2 (a2 == 0)) else (dec_Scaled.j0 k a0 a1 a2 true)) = some (r1, r2) := H
    have A9 := Aside0.mk A90
    clear A90
    by_cases c10 : t111 = true
    ·subst c10
     have H1 : (dec_Scaled.j0 k a0 a1 a2 (a2 == 0)) = some (r1, r2) := by rw [if_pos rfl] at H; exact H
     clear H
     have H := H1
     clear H1
     have H' := Aside0.mk H
     clear H
     go_wp2_with (first | ((with_reducible refine gate_callee (f := 51) rfl ?_); refine goesL_ (some 14) rfl rfl Tryz.func51 (by kernel_rfl) rfl #[.int .i64 a0] rfl (by (try simp only [List.map_toArray, List.map_cons, List.map_nil]); first | done | rfl | (simp only [List.length_drop, List.length_take]; rfl)) ?_; (with_reducible refine (dec_May.calls a0 true _ A5.out).mono ?_); rintro e w' ⟨rfl, ⟨nd, rfl⟩⟩; refine ⟨_, rfl, ?_⟩) | (go_at_call 51; (with_reducible refine (dec_May.calls a1 true _ A7.out).mono ?_); rintro e w' ⟨rfl, ⟨nd, rfl⟩⟩) | (go_at_call 51; (with_reducible refine (dec_May.calls a2 true _ A9.out).mono ?_); rintro e w' ⟨rfl, ⟨nd, rfl⟩⟩))
     go_meet
     case rel => exact ⟨_, ((a2 == 0)), (by first | rfl | (simp; done) | (simp [*]; done)), H', ⟨by first | omega | exact Nat.le_refl _⟩, ⟨by repeat (first | (with_reducible first | exact HB.out | apply below_alloc | apply pw_below_drewN | apply below_drew1) | exact HB.out)⟩⟩
    ·replace c10 := Bool.eq_false_iff.mpr c10
     subst c10
     have H1 : (dec_Scaled.j0 k a0 a1 a2 true) = some (r1, r2) := by rw [if_neg (show ¬ (false = true) by decide)] at H; exact H
     clear H
     have H := H1
     clear H1
     have H' := Aside0.mk H
     clear H
     go_wp2_with (first | ((with_reducible refine gate_callee (f := 51) rfl ?_); refine goesL_ (some 14) rfl rfl Tryz.func51 (by kernel_rfl) rfl #[.int .i64 a0] rfl (by (try simp only [List.map_toArray, List.map_cons, List.map_nil]); first | done | rfl | (simp only [List.length_drop, List.length_take]; rfl)) ?_; (with_reducible refine (dec_May.calls a0 true _ A5.out).mono ?_); rintro e w' ⟨rfl, ⟨nd, rfl⟩⟩; refine ⟨_, rfl, ?_⟩) | (go_at_call 51; (with_reducible refine (dec_May.calls a1 true _ A7.out).mono ?_); rintro e w' ⟨rfl, ⟨nd, rfl⟩⟩) | (go_at_call 51; (with_reducible refine (dec_May.calls a2 false _ A9.out).mono ?_); rintro e w' ⟨rfl, ⟨nd, rfl⟩⟩))
     go_meet
     case rel => exact ⟨_, (true), (by first | rfl | (simp; done) | (simp [*]; done)), H', ⟨by first | omega | exact Nat.le_refl _⟩, ⟨by repeat (first | (with_reducible first | exact HB.out | apply below_alloc | apply pw_below_drewN | apply below_drew1) | exact HB.out)⟩⟩
   ·replace c8 := Bool.eq_false_iff.mpr c8
    subst c8
    have H1 : (dec_Scaled.j0 k a0 a1 a2 true) = some (r1, r2) := by rw [if_neg (show ¬ (false = true) by decide)] at H; exact H
    clear H
    have H := H1
    clear H1
    have H' := Aside0.mk H
    clear H
    go_wp2_with (first | ((with_reducible refine gate_callee (f := 51) rfl ?_); refine goesL_ (some 14) rfl rfl Tryz.func51 (by kernel_rfl) rfl #[.int .i64 a0] rfl (by (try simp only [List.map_toArray, List.map_cons, List.map_nil]); first | done | rfl | (simp only [List.length_drop, List.length_take]; rfl)) ?_; (with_reducible refine (dec_May.calls a0 true _ A5.out).mono ?_); rintro e w' ⟨rfl, ⟨nd, rfl⟩⟩; refine ⟨_, rfl, ?_⟩) | (go_at_call 51; (with_reducible refine (dec_May.calls a1 false _ A7.out).mono ?_); rintro e w' ⟨rfl, ⟨nd, rfl⟩⟩))
    go_meet
    case rel => exact ⟨_, (true), (by first | rfl | (simp; done) | (simp [*]; done)), H', ⟨by first | omega | exact Nat.le_refl _⟩, ⟨by repeat (first | (with_reducible first | exact HB.out | apply below_alloc | apply pw_below_drewN | apply below_drew1) | exact HB.out)⟩⟩
  ·replace c6 := Bool.eq_false_iff.mpr c6
   subst c6
   have H1 : (dec_Scaled.j0 k a0 a1 a2 true) = some (r1, r2) := by rw [if_neg (show ¬ (false = true) by decide)] at H; exact H
   clear H
   have H := H1
   clear H1
   have H' := Aside0.mk H
   clear H
   go_wp2_with (first | ((with_reducible refine gate_callee (f := 51) rfl ?_); refine goesL_ (some 14) rfl rfl Tryz.func51 (by kernel_rfl) rfl #[.int .i64 a0] rfl (by (try simp only [List.map_toArray, List.map_cons, List.map_nil]); first | done | rfl | (simp only [List.length_drop, List.length_take]; rfl)) ?_; (with_reducible refine (dec_May.calls a0 false _ A5.out).mono ?_); rintro e w' ⟨rfl, ⟨nd, rfl⟩⟩; refine ⟨_, rfl, ?_⟩))
   go_meet
   case rel => exact ⟨_, (true), (by first | rfl | (simp; done) | (simp [*]; done)), H', ⟨by first | omega | exact Nat.le_refl _⟩, ⟨by repeat (first | (with_reducible first | exact HB.out | apply below_alloc | apply pw_below_drewN | apply below_drew1) | exact HB.out)⟩⟩
 case rest =>
  clear HC4
  try clear c1
  try clear p2
  try clear c5
  try clear c6
  try clear c7
  try clear c8
  try clear c10
  obtain ⟨kq, x29_3, rfl, HA, HJ3, HB⟩ := hcut
  cases kq with
  | zero => exact absurd HA.out (by simp [dec_Scaled.j0])
  | succ kj3 =>
   have H := HA.out
   clear HA
   simp only [dec_Scaled.j0] at H
   by_cases c11 : x29_3 = true
   ·subst c11
    have H1 : (some (0, false)) = some (r1, r2) := by rw [if_pos rfl] at H; exact H
    clear H
    have H := H1
    clear H1
    simp only [Option.some.injEq, Prod.mk.injEq] at H
    obtain ⟨rfl, rfl⟩ := H
    go_wp2
    go_ret2
    exact ⟨by first | rfl | (simp [errW_none, errW_some] <;> rfl) | (simp [*, errW_none, errW_some] <;> rfl), by repeat (first | (with_reducible first | exact HB.out | apply below_alloc | apply pw_below_drewN | apply below_drew1) | exact HB.out)⟩
   ·replace c11 := Bool.eq_false_iff.mpr c11
    subst c11
    have H1 : ((dec_size.f a2).bind fun t112 => ((dec_size.f a0).bind fun t113 => ((dec_size.f a1).bind fun t114 => ((bits_Mul64.f t113 t114).bind fun bt115 => (if bt115.1 ≥ t112 then (some (0, false)) else ((bits_Div64.f bt115.1 bt115.2 t112).bind fun bt117 => (if bt117.2 ≥ (IntKind.u64.wrap (t112 - bt117.2)) then (dec_Scaled.j1 kj3 a0 a1 a2 (IntKind.u64.wrap (bt117.1 + 1))) else (dec_Scaled.j1 kj3 a0 a1 a2 bt117.1)))))))) = some (r1, r2) := by rw [if_neg (show ¬ (false = true) by decide)] at H; exact H
    clear H
    have H := H1
    clear H1
    replace H := Option.bind_eq_some_iff.mp H
    obtain ⟨t112, A120, H⟩ := H
    replace H : ((dec_size.f a0).bind fun t113 => ((dec_size.f a1).bind fun t114 => ((bits_Mul64.f t113 t114).bind fun bt115 => (if bt115.1 ≥ t112 then (some (0, false)) else ((bits_Div64.f bt115.1 bt115.2 t112).bind fun bt117 => (if bt117.2 ≥ (IntKind.u64.wrap (t112 - bt117.2)) then (dec_Scaled.j1 kj3 a0 a1 a2 (IntKind.u64.wrap (bt117.1 + 1))) else (dec_Scaled.j1 kj3 a0 a1 a2 bt117.1))))))) = some (r1, r2) := H
    have A12 := Aside0.mk A120
    clear A120
    replace H := Option.bind_eq_some_iff.mp H
    obtain ⟨t113, A130, H⟩ := H
    replace H : ((dec_size.f a1).bind fun t114 => ((bits_Mul64.f t113 t114).bind fun bt115 => (if bt115.1 ≥ t112 then (some (0, false)) else ((bits_Div64.f bt115.1 bt115.2 t112).bind fun bt117 => (if bt117.2 ≥ (IntKind.u64.wrap (t112 - bt117.2)) then (dec_Scaled.j1 kj3 a0 a1 a2 (IntKind.u64.wrap (bt117.1 + 1))) else (dec_Scaled.j1 kj3 a0 a1 a2 bt117.1)))))) = some (r1, r2) := H
    have A13 := Aside0.mk A130
    clear A130
    replace H := Option.bind_eq_some_iff.mp H
    obtain ⟨t114, A140, H⟩ := H
    replace H : ((bits_Mul64.f t113 t114).bind fun bt115 => (if bt115.1 ≥ t112 then (some (0, false)) else ((bits_Div64.f bt115.1 bt115.2 t112).bind fun bt117 => (if bt117.2 ≥ (IntKind.u64.wrap (t112 - bt117.2)) then (dec_Scaled.j1 kj3 a0 a1 a2 (IntKind.u64.wrap (bt117.1 + 1))) else (dec_Scaled.j1 kj3 a0 a1 a2 bt117.1))))) = some (r1, r2) := H
    have A14 := Aside0.mk A140
    clear A140
    replace H := Option.bind_eq_some_iff.mp H
    obtain ⟨⟨t115, t116⟩, A150, H⟩ := H
    replace H : (if t115 ≥ t112 then (some (0, false)) else ((bits_Div64.f t115 t116 t112).bind fun bt117 => (if bt117.2 ≥ (IntKind.u64.wrap (t112 - bt117.2)) then (dec_Scaled.j1 kj3 a0 a1 a2 (IntKind.u64.wrap (bt117.1 + 1))) else (dec_Scaled.j1 kj3 a0 a1 a2 bt117.1)))) = some (r1, r2) := H
    have A15 := Aside0.mk A150
    clear A150
    by_cases c16 : t115 ≥ t112
    ·rw [if_pos c16] at H
     have c16b0 : decide (t112 ≤ t115) = true := decide_eq_true c16
     clear c16
     simp only [Option.some.injEq, Prod.mk.injEq] at H
     obtain ⟨rfl, rfl⟩ := H
     go_wp2_with (first | ((with_reducible refine gate_callee (f := 96) rfl ?_); refine goesL_ (some 31) rfl rfl Tryz.func96 (by kernel_rfl) rfl #[.int .i64 a2] rfl (by (try simp only [List.map_toArray, List.map_cons, List.map_nil]); first | done | rfl | (simp only [List.length_drop, List.length_take]; rfl)) ?_; (with_reducible refine (dec_size.calls a2 t112 _ A12.out).mono ?_); rintro e w' ⟨rfl, ⟨nd, rfl⟩⟩; refine ⟨_, rfl, ?_⟩) | ((with_reducible refine gate_callee (f := 96) rfl ?_); refine goesL_ (some 34) rfl rfl Tryz.func96 (by kernel_rfl) rfl #[.int .i64 a0] rfl (by (try simp only [List.map_toArray, List.map_cons, List.map_nil]); first | done | rfl | (simp only [List.length_drop, List.length_take]; rfl)) ?_; (with_reducible refine (dec_size.calls a0 t113 _ A13.out).mono ?_); rintro e w' ⟨rfl, ⟨nd, rfl⟩⟩; refine ⟨_, rfl, ?_⟩) | ((with_reducible refine gate_callee (f := 96) rfl ?_); refine goesL_ (some 36) rfl rfl Tryz.func96 (by kernel_rfl) rfl #[.int .i64 a1] rfl (by (try simp only [List.map_toArray, List.map_cons, List.map_nil]); first | done | rfl | (simp only [List.length_drop, List.length_take]; rfl)) ?_; (with_reducible refine (dec_size.calls a1 t114 _ A14.out).mono ?_); rintro e w' ⟨rfl, ⟨nd, rfl⟩⟩; refine ⟨_, rfl, ?_⟩) | ((with_reducible refine gate_callee (f := 97) rfl ?_); refine goesL_ (some 37) rfl rfl Tryz.func97 (by kernel_rfl) rfl #[.int .u64 t113, .int .u64 t114] rfl (by (try simp only [List.map_toArray, List.map_cons, List.map_nil]); first | done | rfl | (simp only [List.length_drop, List.length_take]; rfl)) ?_; (with_reducible refine (bits_Mul64.calls t113 t114 t115 t116 _ A15.out).mono ?_); rintro e w17 ⟨rfl, hb⟩; refine ⟨_, rfl, ?_⟩; have n0_ := Aside0.mk (below_step (by repeat (first | (with_reducible first | exact HB.out | apply below_alloc | apply pw_below_drewN | apply below_drew1) | exact HB.out)) hb); clear HB; have HB := n0_; clear n0_; (try clear hb); (try clear hb2); (try clear hk); (try clear hi)))
     go_ret2
     exact ⟨by first | rfl | (simp [errW_none, errW_some] <;> rfl) | (simp [*, errW_none, errW_some] <;> rfl), by repeat (first | (with_reducible first | exact HB.out | apply below_alloc | apply pw_below_drewN | apply below_drew1) | exact HB.out)⟩
    ·rw [if_neg c16] at H
     have c16b0 : decide (t112 ≤ t115) = false := decide_eq_false c16
     clear c16
     replace H := Option.bind_eq_some_iff.mp H
     obtain ⟨⟨t117, t118⟩, A180, H⟩ := H
     replace H : (if t118 ≥ (IntKind.u64.wrap (t112 - t118)) then (dec_Scaled.j1 kj3 a0 a1 a2 (IntKind.u64.wrap (t117 + 1))) else (dec_Scaled.j1 kj3 a0 a1 a2 t117)) = some (r1, r2) := H
     have A18 := Aside0.mk A180
     clear A180
     have HC19 := Aside0.mk H
     clear H
     go_upto_if 54 with (first | ((with_reducible refine gate_callee (f := 96) rfl ?_); refine goesL_ (some 31) rfl rfl Tryz.func96 (by kernel_rfl) rfl #[.int .i64 a2] rfl (by (try simp only [List.map_toArray, List.map_cons, List.map_nil]); first | done | rfl | (simp only [List.length_drop, List.length_take]; rfl)) ?_; (with_reducible refine (dec_size.calls a2 t112 _ A12.out).mono ?_); rintro e w' ⟨rfl, ⟨nd, rfl⟩⟩; refine ⟨_, rfl, ?_⟩) | ((with_reducible refine gate_callee (f := 96) rfl ?_); refine goesL_ (some 34) rfl rfl Tryz.func96 (by kernel_rfl) rfl #[.int .i64 a0] rfl (by (try simp only [List.map_toArray, List.map_cons, List.map_nil]); first | done | rfl | (simp only [List.length_drop, List.length_take]; rfl)) ?_; (with_reducible refine (dec_size.calls a0 t113 _ A13.out).mono ?_); rintro e w' ⟨rfl, ⟨nd, rfl⟩⟩; refine ⟨_, rfl, ?_⟩) | ((with_reducible refine gate_callee (f := 96) rfl ?_); refine goesL_ (some 36) rfl rfl Tryz.func96 (by kernel_rfl) rfl #[.int .i64 a1] rfl (by (try simp only [List.map_toArray, List.map_cons, List.map_nil]); first | done | rfl | (simp only [List.length_drop, List.length_take]; rfl)) ?_; (with_reducible refine (dec_size.calls a1 t114 _ A14.out).mono ?_); rintro e w' ⟨rfl, ⟨nd, rfl⟩⟩; refine ⟨_, rfl, ?_⟩) | ((with_reducible refine gate_callee (f := 97) rfl ?_); refine goesL_ (some 37) rfl rfl Tryz.func97 (by kernel_rfl) rfl #[.int .u64 t113, .int .u64 t114] rfl (by (try simp only [List.map_toArray, List.map_cons, List.map_nil]); first | done | rfl | (simp only [List.length_drop, List.length_take]; rfl)) ?_; (with_reducible refine (bits_Mul64.calls t113 t114 t115 t116 _ A15.out).mono ?_); rintro e w20 ⟨rfl, hb⟩; refine ⟨_, rfl, ?_⟩; have n0_ := Aside0.mk (below_step (by repeat (first | (with_reducible first | exact HB.out | apply below_alloc | apply pw_below_drewN | apply below_drew1) | exact HB.out)) hb); clear HB; have HB := n0_; clear n0_; (try clear hb); (try clear hb2); (try clear hk); (try clear hi)) | ((with_reducible refine gate_callee (f := 98) rfl ?_); refine goesL_ (some 47) rfl rfl Tryz.func98 (by kernel_rfl) rfl #[.int .u64 t115, .int .u64 t116, .int .u64 t112] rfl (by (try simp only [List.map_toArray, List.map_cons, List.map_nil]); first | done | rfl | (simp only [List.length_drop, List.length_take]; rfl)) ?_; (with_reducible refine (bits_Div64.calls t115 t116 t112 t117 t118 _ A18.out).mono ?_); rintro e w21 ⟨rfl, hb⟩; refine ⟨_, rfl, ?_⟩; have n0_ := Aside0.mk (below_step (by repeat (first | (with_reducible first | exact HB.out | apply below_alloc | apply pw_below_drewN | apply below_drew1) | exact HB.out)) hb); clear HB; have HB := n0_; clear n0_; (try clear hb); (try clear hb2); (try clear hk); (try clear hi)))
     (try simp only [Act.put, List.setIfInBounds_toArray, List.set_cons_zero, List.set_cons_succ])
     go_cut [11] (fun v11 wc => ∃ (kq : Nat) (x11_18 : Int), v11 = .int .u64 x11_18 ∧ Aside0 (dec_Scaled.j1 kq a0 a1 a2 x11_18 = some (r1, r2)) ∧ Aside0 (kq ≤ kj3) ∧ Aside0 (Below w.heap.size w wc))
     case first =>
      have H := HC19.out
      clear HC19
      by_cases c22 : t118 ≥ (IntKind.u64.wrap (t112 - t118))
      ·rw [if_pos c22] at H
       have c22b0 : decide ((IntKind.u64.wrap (t112 - t118)) ≤ t118) = true := decide_eq_true c22
       clear c22
       (first | rw [c22b0] | (simp only [i64_w, i32_w]; rw [c22b0]) | skip)
       have H' := Aside0.mk H
       clear H
       go_wp2
       go_meet
       case rel => exact ⟨_, (IntKind.u64.wrap (t117 + 1)), (by first | rfl | (simp; done) | (simp [*]; done)), H', ⟨by have := HJ3.out; first | omega | exact Nat.le_refl _⟩, ⟨by repeat (first | (with_reducible first | exact HB.out | apply below_alloc | apply pw_below_drewN | apply below_drew1) | exact HB.out)⟩⟩
      ·rw [if_neg c22] at H
       have c22b0 : decide ((IntKind.u64.wrap (t112 - t118)) ≤ t118) = false := decide_eq_false c22
       clear c22
       (first | rw [c22b0] | (simp only [i64_w, i32_w]; rw [c22b0]) | skip)
       have H' := Aside0.mk H
       clear H
       go_wp2
       go_meet
       case rel => exact ⟨_, (t117), (by first | rfl | (simp; done) | (simp [*]; done)), H', ⟨by have := HJ3.out; first | omega | exact Nat.le_refl _⟩, ⟨by repeat (first | (with_reducible first | exact HB.out | apply below_alloc | apply pw_below_drewN | apply below_drew1) | exact HB.out)⟩⟩
     case rest =>
      clear HC19
      try clear c1
      try clear c2
      try clear p2
      try clear c5
      try clear c6
      try clear c7
      try clear c8
      try clear c9
      try clear c10
      try clear c11
      try clear c16
      try clear c16b0
      try clear c22
      try clear c22b0
      try clear p2
      obtain ⟨kq, x11_18, rfl, HA, HJ18, HB⟩ := hcut
      cases kq with
      | zero => exact absurd HA.out (by simp [dec_Scaled.j1])
      | succ kj18 =>
       have H := HA.out
       clear HA
       simp only [dec_Scaled.j1] at H
       by_cases c23 : x11_18 > 9223372036854775807
       ·rw [if_pos c23] at H
        have c23b0 : decide (9223372036854775807 < x11_18) = true := decide_eq_true c23
        clear c23
        simp only [Option.some.injEq, Prod.mk.injEq] at H
        obtain ⟨rfl, rfl⟩ := H
        go_wp2
        go_ret2
        exact ⟨by first | rfl | (simp [errW_none, errW_some] <;> rfl) | (simp [*, errW_none, errW_some] <;> rfl), by repeat (first | (with_reducible first | exact HB.out | apply below_alloc | apply pw_below_drewN | apply below_drew1) | exact HB.out)⟩
       ·rw [if_neg c23] at H
        have c23b0 : decide (9223372036854775807 < x11_18) = false := decide_eq_false c23
        clear c23
        replace H := Option.bind_eq_some_iff.mp H
        obtain ⟨t119, A240, H⟩ := H
        replace H : ((dec_Sign.f a1).bind fun t120 => ((dec_Sign.f a2).bind fun t121 => (if (wrap64 ((wrap64 (t119 * t120)) * t121)) < 0 then (some (wrap64 (-(wrap64 (x11_18))), true)) else (some (wrap64 (x11_18), true))))) = some (r1, r2) := H
        have A24 := Aside0.mk A240
        clear A240
        replace H := Option.bind_eq_some_iff.mp H
        obtain ⟨t120, A250, H⟩ := H
        replace H : ((dec_Sign.f a2).bind fun t121 => (if (wrap64 ((wrap64 (t119 * t120)) * t121)) < 0 then (some (wrap64 (-(wrap64 (x11_18))), true)) else (some (wrap64 (x11_18), true)))) = some (r1, r2) := H
        have A25 := Aside0.mk A250
        clear A250
        replace H := Option.bind_eq_some_iff.mp H
        obtain ⟨t121, A260, H⟩ := H
        replace H : (if (wrap64 ((wrap64 (t119 * t120)) * t121)) < 0 then (some (wrap64 (-(wrap64 (x11_18))), true)) else (some (wrap64 (x11_18), true))) = some (r1, r2) := H
        have A26 := Aside0.mk A260
        clear A260
        by_cases c27 : (wrap64 ((wrap64 (t119 * t120)) * t121)) < 0
        ·rw [if_pos c27] at H
         have c27b0 : decide ((wrap64 ((wrap64 (t119 * t120)) * t121)) < 0) = true := decide_eq_true c27
         clear c27
         simp only [Option.some.injEq, Prod.mk.injEq] at H
         obtain ⟨rfl, rfl⟩ := H
         go_wp2_with (first | ((with_reducible refine gate_callee (f := 99) rfl ?_); refine goesL_ (some 60) rfl rfl Tryz.func99 (by kernel_rfl) rfl #[.int .i64 a0] rfl (by (try simp only [List.map_toArray, List.map_cons, List.map_nil]); first | done | rfl | (simp only [List.length_drop, List.length_take]; rfl)) ?_; (with_reducible refine (dec_Sign.calls a0 t119 _ A24.out).mono ?_); rintro e w' ⟨rfl, ⟨nd, rfl⟩⟩; refine ⟨_, rfl, ?_⟩) | ((with_reducible refine gate_callee (f := 99) rfl ?_); refine goesL_ (some 62) rfl rfl Tryz.func99 (by kernel_rfl) rfl #[.int .i64 a1] rfl (by (try simp only [List.map_toArray, List.map_cons, List.map_nil]); first | done | rfl | (simp only [List.length_drop, List.length_take]; rfl)) ?_; (with_reducible refine (dec_Sign.calls a1 t120 _ A25.out).mono ?_); rintro e w' ⟨rfl, ⟨nd, rfl⟩⟩; refine ⟨_, rfl, ?_⟩) | ((with_reducible refine gate_callee (f := 99) rfl ?_); refine goesL_ (some 65) rfl rfl Tryz.func99 (by kernel_rfl) rfl #[.int .i64 a2] rfl (by (try simp only [List.map_toArray, List.map_cons, List.map_nil]); first | done | rfl | (simp only [List.length_drop, List.length_take]; rfl)) ?_; (with_reducible refine (dec_Sign.calls a2 t121 _ A26.out).mono ?_); rintro e w' ⟨rfl, ⟨nd, rfl⟩⟩; refine ⟨_, rfl, ?_⟩))
         go_ret2
         exact ⟨by first | rfl | (simp [errW_none, errW_some] <;> rfl) | (simp [*, errW_none, errW_some] <;> rfl), by repeat (first | (with_reducible first | exact HB.out | apply below_alloc | apply pw_below_drewN | apply below_drew1) | exact HB.out)⟩
        ·rw [if_neg c27] at H
         have c27b0 : decide ((wrap64 ((wrap64 (t119 * t120)) * t121)) < 0) = false := decide_eq_false c27
         clear c27
         simp only [Option.some.injEq, Prod.mk.injEq] at H
         obtain ⟨rfl, rfl⟩ := H
         go_wp2_with (first | ((with_reducible refine gate_callee (f := 99) rfl ?_); refine goesL_ (some 60) rfl rfl Tryz.func99 (by kernel_rfl) rfl #[.int .i64 a0] rfl (by (try simp only [List.map_toArray, List.map_cons, List.map_nil]); first | done | rfl | (simp only [List.length_drop, List.length_take]; rfl)) ?_; (with_reducible refine (dec_Sign.calls a0 t119 _ A24.out).mono ?_); rintro e w' ⟨rfl, ⟨nd, rfl⟩⟩; refine ⟨_, rfl, ?_⟩) | ((with_reducible refine gate_callee (f := 99) rfl ?_); refine goesL_ (some 62) rfl rfl Tryz.func99 (by kernel_rfl) rfl #[.int .i64 a1] rfl (by (try simp only [List.map_toArray, List.map_cons, List.map_nil]); first | done | rfl | (simp only [List.length_drop, List.length_take]; rfl)) ?_; (with_reducible refine (dec_Sign.calls a1 t120 _ A25.out).mono ?_); rintro e w' ⟨rfl, ⟨nd, rfl⟩⟩; refine ⟨_, rfl, ?_⟩) | ((with_reducible refine gate_callee (f := 99) rfl ?_); refine goesL_ (some 65) rfl rfl Tryz.func99 (by kernel_rfl) rfl #[.int .i64 a2] rfl (by (try simp only [List.map_toArray, List.map_cons, List.map_nil]); first | done | rfl | (simp only [List.length_drop, List.length_take]; rfl)) ?_; (with_reducible refine (dec_Sign.calls a2 t121 _ A26.out).mono ?_); rintro e w' ⟨rfl, ⟨nd, rfl⟩⟩; refine ⟨_, rfl, ?_⟩))
         go_ret2
         exact ⟨by first | rfl | (simp [errW_none, errW_some] <;> rfl) | (simp [*, errW_none, errW_some] <;> rfl), by repeat (first | (with_reducible first | exact HB.out | apply below_alloc | apply pw_below_drewN | apply below_drew1) | exact HB.out)⟩
end Go.Proofs.YtaljjdodjimgdaaGreatDoor.P
namespace Go.Proofs.YtaljjdodjimgdaaGreatDoor.P
open Go.RowKit Go.Proofs.YtaljjdodjimgdaaGreatDoorW.PrintWords Go.Proofs.YtaljjdodjimgdaaGreatDoorW.PrintLast Go.Proofs.YtaljjdodjimgdaaGreatDoorW.PrintMore
attribute [local go_sem] max2_int min2_int max_two min_two max_three min_three max_four min_four
set_option linter.unusedVariables false
set_option linter.unusedSimpArgs false
mutual
def digits_number.l0 : Nat → ByteArray → Int → Int → Int → Option (Int × Bool)
 | 0, _, _, _, _ => none
 | k + 1, x0, x4, x11, x12 => if x12 < x11 then (if 0 ≤ x12 then (if x12 < (x0.size : Int) then (if (bt x0 x12) < 48 then (digits_number.j1 k x0 x4 x12 x11 x12 true) else (digits_number.j1 k x0 x4 x12 x11 x12 (decide ((bt x0 x12) > 57)))) else (none)) else (none)) else (some (x4, (!x0.toList.isEmpty)))
def digits_number.j1 : Nat → ByteArray → Int → Int → Int → Int → Bool → Option (Int × Bool)
 | 0, _, _, _, _, _, _ => none
 | k + 1, x0, x4, x5, x11, x12, x24 => if x24 = true then (some (0, false)) else ((dec_Scaled.f k x4 10 1).bind fun bt125 => (if 0 ≤ x5 then (if x5 < (x0.size : Int) then ((dec_Add.f bt125.1 (((bt x0 x5) - 48) % 256)).bind fun bt127 => (if bt125.2 = true then (if bt127.2 = true then (digits_number.l0 k x0 bt127.1 x11 (wrap64 (x12 + 1))) else (some (0, false))) else (some (0, false)))) else (none)) else (none)))
end
def digits_number.f (k : Nat) (a0 : ByteArray) : Option (Int × Bool) := digits_number.l0 k a0 0 (a0.size : Int) 0
theorem digits_number.mono_l : ∀ k, (∀ y0 y1 y2 y3, LeO (digits_number.l0 k y0 y1 y2 y3) (digits_number.l0 (k + 1) y0 y1 y2 y3)) ∧ (∀ y0 y1 y2 y3 y4 y5, LeO (digits_number.j1 k y0 y1 y2 y3 y4 y5) (digits_number.j1 (k + 1) y0 y1 y2 y3 y4 y5))
 | 0 => ⟨fun _ _ _ _ r h => by simp [digits_number.l0] at h, fun _ _ _ _ _ _ r h => by simp [digits_number.j1] at h⟩
 | k + 1 => by
  obtain ⟨ih0, ih1⟩ := digits_number.mono_l k
  refine ⟨?_, ?_⟩
  ·intro y0 y1 y2 y3
   unfold digits_number.l0
   repeat' first
   | (with_reducible exact ih0 _ _ _ _)
   | (with_reducible exact ih1 _ _ _ _ _ _)
   | (with_reducible exact dec_Scaled.mono _ _ _ _)
   | (with_reducible exact LeO.refl _)
   | (with_reducible exact LeO.none _)
   | (with_reducible refine LeO.ite ?_ ?_)
   | (with_reducible refine LeO.bind ?_ (fun _ => ?_))
   | exact ih0 _ _ _ _
   | exact ih1 _ _ _ _ _ _
   | exact dec_Scaled.mono _ _ _ _
   | exact LeO.none _
   | refine LeO.ite ?_ ?_
   | refine LeO.bind ?_ (fun _ => ?_)
  ·intro y0 y1 y2 y3 y4 y5
   unfold digits_number.j1
   repeat' first
   | (with_reducible exact ih0 _ _ _ _)
   | (with_reducible exact ih1 _ _ _ _ _ _)
   | (with_reducible exact dec_Scaled.mono _ _ _ _)
   | (with_reducible exact LeO.refl _)
   | (with_reducible exact LeO.none _)
   | (with_reducible refine LeO.ite ?_ ?_)
   | (with_reducible refine LeO.bind ?_ (fun _ => ?_))
   | exact ih0 _ _ _ _
   | exact ih1 _ _ _ _ _ _
   | exact dec_Scaled.mono _ _ _ _
   | exact LeO.none _
   | refine LeO.ite ?_ ?_
   | refine LeO.bind ?_ (fun _ => ?_)
theorem digits_number.mono : ∀ a0 k, LeO (digits_number.f k a0) (digits_number.f (k + 1) a0) := by
 intro a0 k
 obtain ⟨ih0, ih1⟩ := digits_number.mono_l k
 unfold digits_number.f
 repeat' first
   | (with_reducible exact ih0 _ _ _ _)
   | (with_reducible exact ih1 _ _ _ _ _ _)
   | (with_reducible exact dec_Scaled.mono _ _ _ _)
   | (with_reducible exact LeO.refl _)
   | (with_reducible exact LeO.none _)
   | (with_reducible refine LeO.ite ?_ ?_)
   | (with_reducible refine LeO.bind ?_ (fun _ => ?_))
   | exact ih0 _ _ _ _
   | exact ih1 _ _ _ _ _ _
   | exact dec_Scaled.mono _ _ _ _
   | exact LeO.none _
   | refine LeO.ite ?_ ?_
   | refine LeO.bind ?_ (fun _ => ?_)
set_option maxHeartbeats 8000000 in
set_option maxRecDepth 100000 in
theorem digits_number.calls (k : Nat) (a0 : ByteArray) (r1 : Int) (r2 : Bool) (w : World) (h : digits_number.f k a0 = some (r1, r2)) :
  Calls Tryz.prog 57 #[.string a0] w fun e w' => e = .returned (.tuple #[.int .i64 r1, .bool r2]) ∧ Below w.heap.size w w' := by
 have HB := Aside0.mk (Below.refl w.heap.size w)
 have H : (digits_number.l0 k a0 0 (a0.size : Int) 0) = some (r1, r2) := h
 clear h
 have H' := Aside0.mk H
 clear H
 go_enter Tryz.func57, Tryz.ntmps57
 go_wp2
 go_loopg [4, 12] k (fun kq v4 v12 w' => ∃ (x4_1 : Int) (x12_1 : Int), v4 = .int .i64 x4_1 ∧ v12 = .int .i64 x12_1 ∧ Aside0 (digits_number.l0 kq a0 x4_1 (a0.size : Int) x12_1 = some (r1, r2)) ∧ Aside0 (kq ≤ k) ∧ Aside0 (Below w.heap.size w w'))
 case atStart => exact ⟨(0), (0), (by first | rfl | (simp; done) | (simp [*]; done)), (by first | rfl | (simp; done) | (simp [*]; done)), H', ⟨Nat.le_refl _⟩, ⟨by repeat (first | (with_reducible first | exact HB.out | apply below_alloc | apply pw_below_drewN | apply below_drew1) | exact HB.out)⟩⟩
 case round =>
  clear H'
  obtain ⟨x4_1, x12_1, rfl, rfl, HA, HK1, HB⟩ := hrel
  cases gk with
  | zero => exact absurd HA.out (by simp [digits_number.l0])
  | succ k1 =>
   have H := HA.out
   clear HA
   simp only [digits_number.l0] at H
   by_cases c2 : x12_1 < (a0.size : Int)
   ·rw [if_pos c2] at H
    have c2b0 : decide (x12_1 < (a0.size : Int)) = true := decide_eq_true c2
    clear c2
    have HC3 := Aside0.mk H
    clear H
    go_upto_region 5 with (fail)
    go_cut [24] (fun v24 wc => ∃ (kq : Nat) (x24_2 : Bool), v24 = .bool x24_2 ∧ Aside0 (digits_number.j1 kq a0 x4_1 x12_1 (a0.size : Int) x12_1 x24_2 = some (r1, r2)) ∧ Aside0 (kq ≤ k1) ∧ Aside0 (Below w.heap.size w wc))
    case first =>
     have H := HC3.out
     clear HC3
     by_cases c4 : 0 ≤ x12_1
     ·rw [if_pos c4] at H
      have c4b0 : decide (0 ≤ x12_1) = true := decide_eq_true c4
      clear c4
      (first | rw [c4b0] | (simp only [i64_w, i32_w]; rw [c4b0]) | skip)
      by_cases c5 : x12_1 < (a0.size : Int)
      ·rw [if_pos c5] at H
       have c5b0 : decide (x12_1 < (a0.size : Int)) = true := decide_eq_true c5
       clear c5
       by_cases c7 : (bt a0 x12_1) < 48
       ·rw [if_pos c7] at H
        have c7b0 : decide ((bt a0 x12_1) < 48) = true := decide_eq_true c7
        clear c7
        have H' := Aside0.mk H
        clear H
        have p6 : 0 ≤ (x12_1 : Int) := of_decide_eq_true (by first | (with_reducible assumption) | assumption)
        have q6 : x12_1 < (a0.size : Int) := of_decide_eq_true (by first | (with_reducible assumption) | assumption)
        have hx6 := bt_at a0 x12_1
        replace p6 := eq_true p6
        replace q6 := eq_true q6
        go_wp2
        go_meet
        case rel => exact ⟨_, (true), (by first | rfl | (simp; done) | (simp [*]; done)), H', ⟨by have := HK1.out; first | omega | exact Nat.le_refl _⟩, ⟨by repeat (first | (with_reducible first | exact HB.out | apply below_alloc | apply pw_below_drewN | apply below_drew1) | exact HB.out)⟩⟩
       ·rw [if_neg c7] at H
        have c7b0 : decide ((bt a0 x12_1) < 48) = false := decide_eq_false c7
        clear c7
        have H' := Aside0.mk H
        clear H
        have p6 : 0 ≤ (x12_1 : Int) := of_decide_eq_true (by first | (with_reducible assumption) | assumption)
        have q6 : x12_1 < (a0.size : Int) := of_decide_eq_true (by first | (with_reducible assumption) | assumption)
        have hx6 := bt_at a0 x12_1
        replace p6 := eq_true p6
        replace q6 := eq_true q6
        have p8 : 0 ≤ (x12_1 : Int) := of_decide_eq_true (by first | (with_reducible assumption) | assumption)
        have q8 : x12_1 < (a0.size : Int) := of_decide_eq_true (by first | (with_reducible assumption) | assumption)
        have hx8 := bt_at a0 x12_1
        replace p8 := eq_true p8
        replace q8 := eq_true q8
        go_wp2
        go_meet
        case rel => exact ⟨_, (decide ((bt a0 x12_1) > 57)), (by first | rfl | (simp; done) | (simp [*]; done)), H', ⟨by have := HK1.out; first | omega | exact Nat.le_refl _⟩, ⟨by repeat (first | (with_reducible first | exact HB.out | apply below_alloc | apply pw_below_drewN | apply below_drew1) | exact HB.out)⟩⟩
      ·rw [if_neg c5] at H
       exact absurd H (by simp)
     ·rw [if_neg c4] at H
      exact absurd H (by simp)
    case rest =>
     clear HC3
     try clear c2
     try clear c2b0
     try clear p2
     try clear c4
     try clear c4b0
     try clear c5
     try clear c5b0
     try clear p6
     try clear q6
     try clear hx6
     try clear c7
     try clear c7b0
     try clear p8
     try clear q8
     try clear hx8
     try clear p6
     try clear p8
     try clear q6
     try clear q8
     obtain ⟨kq, x24_2, rfl, HA, HJ2, HB⟩ := hcut
     cases kq with
     | zero => exact absurd HA.out (by simp [digits_number.j1])
     | succ kj2 =>
      have H := HA.out
      clear HA
      simp only [digits_number.j1] at H
      by_cases c9 : x24_2 = true
      ·subst c9
       have H1 : (some (0, false)) = some (r1, r2) := by rw [if_pos rfl] at H; exact H
       clear H
       have H := H1
       clear H1
       simp only [Option.some.injEq, Prod.mk.injEq] at H
       obtain ⟨rfl, rfl⟩ := H
       go_wp2
       go_ret2
       exact ⟨by first | rfl | (simp [errW_none, errW_some] <;> rfl) | (simp [*, errW_none, errW_some] <;> rfl), by repeat (first | (with_reducible first | exact HB.out | apply below_alloc | apply pw_below_drewN | apply below_drew1) | exact HB.out)⟩
      ·replace c9 := Bool.eq_false_iff.mpr c9
       subst c9
       have H1 : ((dec_Scaled.f kj2 x4_1 10 1).bind fun bt125 => (if 0 ≤ x12_1 then (if x12_1 < (a0.size : Int) then ((dec_Add.f bt125.1 (((bt a0 x12_1) - 48) % 256)).bind fun bt127 => (if bt125.2 = true then (if bt127.2 = true then (digits_number.l0 kj2 a0 bt127.1 (a0.size : Int) (wrap64 (x12_1 + 1))) else (some (0, false))) else (some (0, false)))) else (none)) else (none))) = some (r1, r2) := by rw [if_neg (show ¬ (false = true) by decide)] at H; exact H
       clear H
       have H := H1
       clear H1
       replace H := Option.bind_eq_some_iff.mp H
       obtain ⟨⟨t125, t126⟩, A100, H⟩ := H
       replace H : (if 0 ≤ x12_1 then (if x12_1 < (a0.size : Int) then ((dec_Add.f t125 (((bt a0 x12_1) - 48) % 256)).bind fun bt127 => (if t126 = true then (if bt127.2 = true then (digits_number.l0 kj2 a0 bt127.1 (a0.size : Int) (wrap64 (x12_1 + 1))) else (some (0, false))) else (some (0, false)))) else (none)) else (none)) = some (r1, r2) := H
       have A10 := Aside0.mk A100
       clear A100
       by_cases c11 : 0 ≤ x12_1
       ·rw [if_pos c11] at H
        have c11b0 : decide (0 ≤ x12_1) = true := decide_eq_true c11
        clear c11
        by_cases c12 : x12_1 < (a0.size : Int)
        ·rw [if_pos c12] at H
         have c12b0 : decide (x12_1 < (a0.size : Int)) = true := decide_eq_true c12
         clear c12
         replace H := Option.bind_eq_some_iff.mp H
         obtain ⟨⟨t127, t128⟩, A140, H⟩ := H
         replace H : (if t126 = true then (if t128 = true then (digits_number.l0 kj2 a0 t127 (a0.size : Int) (wrap64 (x12_1 + 1))) else (some (0, false))) else (some (0, false))) = some (r1, r2) := H
         have A14 := Aside0.mk A140
         clear A140
         by_cases c15 : t126 = true
         ·subst c15
          have H1 : (if t128 = true then (digits_number.l0 kj2 a0 t127 (a0.size : Int) (wrap64 (x12_1 + 1))) else (some (0, false))) = some (r1, r2) := by rw [if_pos rfl] at H; exact H
          clear H
          have H := H1
          clear H1
          by_cases c16 : t128 = true
          ·subst c16
           have H1 : (digits_number.l0 kj2 a0 t127 (a0.size : Int) (wrap64 (x12_1 + 1))) = some (r1, r2) := by rw [if_pos rfl] at H; exact H
           clear H
           have H := H1
           clear H1
           have H' := Aside0.mk H
           clear H
           go_wp2_with (first | ((with_reducible refine gate_callee (f := 76) rfl ?_); refine goesL_ (some 27) rfl rfl Tryz.func76 (by kernel_rfl) rfl #[.int .i64 x4_1, .int .i64 10, .int .i64 1] rfl (by (try simp only [List.map_toArray, List.map_cons, List.map_nil]); first | done | rfl | (simp only [List.length_drop, List.length_take]; rfl)) ?_; (with_reducible refine (dec_Scaled.calls kj2 x4_1 10 1 t125 true _ A10.out).mono ?_); rintro e w17 ⟨rfl, hb⟩; refine ⟨_, rfl, ?_⟩; have n0_ := Aside0.mk (below_step (by repeat (first | (with_reducible first | exact HB.out | apply below_alloc | apply pw_below_drewN | apply below_drew1) | exact HB.out)) hb); clear HB; have HB := n0_; clear n0_; (try clear hb); (try clear hb2); (try clear hk); (try clear hi); have p13 : 0 ≤ (x12_1 : Int) := of_decide_eq_true (by first | (with_reducible assumption) | assumption); have q13 : x12_1 < (a0.size : Int) := of_decide_eq_true (by first | (with_reducible assumption) | assumption); have hx13 := bt_at a0 x12_1; replace p13 := eq_true p13; replace q13 := eq_true q13) | ((with_reducible refine gate_callee (f := 77) rfl ?_); refine goesL_ (some 37) rfl rfl Tryz.func77 (by kernel_rfl) rfl #[.int .i64 t125, .int .i64 (((bt a0 x12_1) - 48) % 256)] rfl (by (try simp only [List.map_toArray, List.map_cons, List.map_nil]); first | done | rfl | (simp only [List.length_drop, List.length_take]; rfl)) ?_; (with_reducible refine (dec_Add.calls t125 (((bt a0 x12_1) - 48) % 256) t127 true _ A14.out).mono ?_); rintro e w' ⟨rfl, ⟨nd, rfl⟩⟩; refine ⟨_, rfl, ?_⟩))
           go_roundg kj2
           case measure => have := HK1.out; have := HJ2.out; omega
           case rel => exact ⟨(t127), (wrap64 (x12_1 + 1)), (by first | rfl | (simp; done) | (simp [*]; done)), (by first | rfl | (simp; done) | (simp [*]; done)), H', ⟨by have := HK1.out; have := HJ2.out; omega⟩, ⟨by repeat (first | (with_reducible first | exact HB.out | apply below_alloc | apply pw_below_drewN | apply below_drew1) | exact HB.out)⟩⟩
          ·replace c16 := Bool.eq_false_iff.mpr c16
           subst c16
           have H1 : (some (0, false)) = some (r1, r2) := by rw [if_neg (show ¬ (false = true) by decide)] at H; exact H
           clear H
           have H := H1
           clear H1
           simp only [Option.some.injEq, Prod.mk.injEq] at H
           obtain ⟨rfl, rfl⟩ := H
           go_wp2_with (first | ((with_reducible refine gate_callee (f := 76) rfl ?_); refine goesL_ (some 27) rfl rfl Tryz.func76 (by kernel_rfl) rfl #[.int .i64 x4_1, .int .i64 10, .int .i64 1] rfl (by (try simp only [List.map_toArray, List.map_cons, List.map_nil]); first | done | rfl | (simp only [List.length_drop, List.length_take]; rfl)) ?_; (with_reducible refine (dec_Scaled.calls kj2 x4_1 10 1 t125 true _ A10.out).mono ?_); rintro e w18 ⟨rfl, hb⟩; refine ⟨_, rfl, ?_⟩; have n0_ := Aside0.mk (below_step (by repeat (first | (with_reducible first | exact HB.out | apply below_alloc | apply pw_below_drewN | apply below_drew1) | exact HB.out)) hb); clear HB; have HB := n0_; clear n0_; (try clear hb); (try clear hb2); (try clear hk); (try clear hi); have p13 : 0 ≤ (x12_1 : Int) := of_decide_eq_true (by first | (with_reducible assumption) | assumption); have q13 : x12_1 < (a0.size : Int) := of_decide_eq_true (by first | (with_reducible assumption) | assumption); have hx13 := bt_at a0 x12_1; replace p13 := eq_true p13; replace q13 := eq_true q13) | ((with_reducible refine gate_callee (f := 77) rfl ?_); refine goesL_ (some 37) rfl rfl Tryz.func77 (by kernel_rfl) rfl #[.int .i64 t125, .int .i64 (((bt a0 x12_1) - 48) % 256)] rfl (by (try simp only [List.map_toArray, List.map_cons, List.map_nil]); first | done | rfl | (simp only [List.length_drop, List.length_take]; rfl)) ?_; (with_reducible refine (dec_Add.calls t125 (((bt a0 x12_1) - 48) % 256) t127 false _ A14.out).mono ?_); rintro e w' ⟨rfl, ⟨nd, rfl⟩⟩; refine ⟨_, rfl, ?_⟩))
           go_ret2
           exact ⟨by first | rfl | (simp [errW_none, errW_some] <;> rfl) | (simp [*, errW_none, errW_some] <;> rfl), by repeat (first | (with_reducible first | exact HB.out | apply below_alloc | apply pw_below_drewN | apply below_drew1) | exact HB.out)⟩
         ·replace c15 := Bool.eq_false_iff.mpr c15
          subst c15
          have H1 : (some (0, false)) = some (r1, r2) := by rw [if_neg (show ¬ (false = true) by decide)] at H; exact H
          clear H
          have H := H1
          clear H1
          simp only [Option.some.injEq, Prod.mk.injEq] at H
          obtain ⟨rfl, rfl⟩ := H
          go_wp2_with (first | ((with_reducible refine gate_callee (f := 76) rfl ?_); refine goesL_ (some 27) rfl rfl Tryz.func76 (by kernel_rfl) rfl #[.int .i64 x4_1, .int .i64 10, .int .i64 1] rfl (by (try simp only [List.map_toArray, List.map_cons, List.map_nil]); first | done | rfl | (simp only [List.length_drop, List.length_take]; rfl)) ?_; (with_reducible refine (dec_Scaled.calls kj2 x4_1 10 1 t125 false _ A10.out).mono ?_); rintro e w19 ⟨rfl, hb⟩; refine ⟨_, rfl, ?_⟩; have n0_ := Aside0.mk (below_step (by repeat (first | (with_reducible first | exact HB.out | apply below_alloc | apply pw_below_drewN | apply below_drew1) | exact HB.out)) hb); clear HB; have HB := n0_; clear n0_; (try clear hb); (try clear hb2); (try clear hk); (try clear hi); have p13 : 0 ≤ (x12_1 : Int) := of_decide_eq_true (by first | (with_reducible assumption) | assumption); have q13 : x12_1 < (a0.size : Int) := of_decide_eq_true (by first | (with_reducible assumption) | assumption); have hx13 := bt_at a0 x12_1; replace p13 := eq_true p13; replace q13 := eq_true q13) | ((with_reducible refine gate_callee (f := 77) rfl ?_); refine goesL_ (some 37) rfl rfl Tryz.func77 (by kernel_rfl) rfl #[.int .i64 t125, .int .i64 (((bt a0 x12_1) - 48) % 256)] rfl (by (try simp only [List.map_toArray, List.map_cons, List.map_nil]); first | done | rfl | (simp only [List.length_drop, List.length_take]; rfl)) ?_; (with_reducible refine (dec_Add.calls t125 (((bt a0 x12_1) - 48) % 256) t127 t128 _ A14.out).mono ?_); rintro e w' ⟨rfl, ⟨nd, rfl⟩⟩; refine ⟨_, rfl, ?_⟩))
          go_ret2
          exact ⟨by first | rfl | (simp [errW_none, errW_some] <;> rfl) | (simp [*, errW_none, errW_some] <;> rfl), by repeat (first | (with_reducible first | exact HB.out | apply below_alloc | apply pw_below_drewN | apply below_drew1) | exact HB.out)⟩
        ·rw [if_neg c12] at H
         exact absurd H (by simp)
       ·rw [if_neg c11] at H
        exact absurd H (by simp)
   ·rw [if_neg c2] at H
    have c2b0 : decide (x12_1 < (a0.size : Int)) = false := decide_eq_false c2
    clear c2
    simp only [Option.some.injEq, Prod.mk.injEq] at H
    obtain ⟨rfl, rfl⟩ := H
    go_wp2
    go_ret2
    exact ⟨by first | rfl | (simp [errW_none, errW_some] <;> rfl) | (simp [*, errW_none, errW_some] <;> rfl), by repeat (first | (with_reducible first | exact HB.out | apply below_alloc | apply pw_below_drewN | apply below_drew1) | exact HB.out)⟩
end Go.Proofs.YtaljjdodjimgdaaGreatDoor.P
namespace Go.Proofs.YtaljjdodjimgdaaGreatDoor.P
open Go.RowKit Go.Proofs.YtaljjdodjimgdaaGreatDoorW.PrintWords Go.Proofs.YtaljjdodjimgdaaGreatDoorW.PrintLast Go.Proofs.YtaljjdodjimgdaaGreatDoorW.PrintMore
attribute [local go_sem] max2_int min2_int max_two min_two max_three min_three max_four min_four
set_option linter.unusedVariables false
set_option linter.unusedSimpArgs false
def dec_Neg.f (a0 : Int) : Option (Int × Bool) := (dec_May.f a0).bind fun t131 => (if t131 = true then (some (wrap64 (-a0), true)) else (some (0, false)))
set_option maxHeartbeats 8000000 in
set_option maxRecDepth 100000 in
theorem dec_Neg.calls (a0 : Int) (r1 : Int) (r2 : Bool) (w : World) (h : dec_Neg.f a0 = some (r1, r2)) :
  Calls Tryz.prog 79 #[.int .i64 a0] w fun e w' => e = .returned (.tuple #[.int .i64 r1, .bool r2]) ∧ Drawn0 w w' := by
 have H : ((dec_May.f a0).bind fun t131 => (if t131 = true then (some (wrap64 (-a0), true)) else (some (0, false)))) = some (r1, r2) := h
 clear h
 replace H := Option.bind_eq_some_iff.mp H
 obtain ⟨t131, A20, H⟩ := H
 replace H : (if t131 = true then (some (wrap64 (-a0), true)) else (some (0, false))) = some (r1, r2) := H
 have A2 := Aside0.mk A20
 clear A20
 by_cases c3 : t131 = true
 ·subst c3
  have H1 : (some (wrap64 (-a0), true)) = some (r1, r2) := by rw [if_pos rfl] at H; exact H
  clear H
  have H := H1
  clear H1
  simp only [Option.some.injEq, Prod.mk.injEq] at H
  obtain ⟨rfl, rfl⟩ := H
  go_enter Tryz.func79, Tryz.ntmps79
  go_wp2_with (first | ((with_reducible refine gate_callee (f := 51) rfl ?_); refine goesL_ (some 5) rfl rfl Tryz.func51 (by kernel_rfl) rfl #[.int .i64 a0] rfl (by (try simp only [List.map_toArray, List.map_cons, List.map_nil]); first | done | rfl | (simp only [List.length_drop, List.length_take]; rfl)) ?_; (with_reducible refine (dec_May.calls a0 true _ A2.out).mono ?_); rintro e w' ⟨rfl, ⟨nd, rfl⟩⟩; refine ⟨_, rfl, ?_⟩))
  go_ret2
  exact ⟨by first | rfl | (simp; done) | (simp [*]; done), by repeat (first | exact Drawn0.refl _ | apply Drawn0.step)⟩
 ·replace c3 := Bool.eq_false_iff.mpr c3
  subst c3
  have H1 : (some (0, false)) = some (r1, r2) := by rw [if_neg (show ¬ (false = true) by decide)] at H; exact H
  clear H
  have H := H1
  clear H1
  simp only [Option.some.injEq, Prod.mk.injEq] at H
  obtain ⟨rfl, rfl⟩ := H
  go_enter Tryz.func79, Tryz.ntmps79
  go_wp2_with (first | ((with_reducible refine gate_callee (f := 51) rfl ?_); refine goesL_ (some 5) rfl rfl Tryz.func51 (by kernel_rfl) rfl #[.int .i64 a0] rfl (by (try simp only [List.map_toArray, List.map_cons, List.map_nil]); first | done | rfl | (simp only [List.length_drop, List.length_take]; rfl)) ?_; (with_reducible refine (dec_May.calls a0 false _ A2.out).mono ?_); rintro e w' ⟨rfl, ⟨nd, rfl⟩⟩; refine ⟨_, rfl, ?_⟩))
  go_ret2
  exact ⟨by first | rfl | (simp; done) | (simp [*]; done), by repeat (first | exact Drawn0.refl _ | apply Drawn0.step)⟩
end Go.Proofs.YtaljjdodjimgdaaGreatDoor.P
namespace Go.Proofs.YtaljjdodjimgdaaGreatDoor.P
open Go.RowKit Go.Proofs.YtaljjdodjimgdaaGreatDoorW.PrintWords Go.Proofs.YtaljjdodjimgdaaGreatDoorW.PrintLast Go.Proofs.YtaljjdodjimgdaaGreatDoorW.PrintMore
attribute [local go_sem] max2_int min2_int max_two min_two max_three min_three max_four min_four
set_option linter.unusedVariables false
set_option linter.unusedSimpArgs false
def dec_Of.f (k : Nat) (a0 : Int) : Option (Int × Bool) := (dec_Scaled.f k a0 10000 1).bind fun bt129 => (some (bt129.1, bt129.2))
theorem dec_Of.mono : ∀ a0 k, LeO (dec_Of.f k a0) (dec_Of.f (k + 1) a0) := by
 intro a0 k
 unfold dec_Of.f
 repeat' first
   | (with_reducible exact dec_Scaled.mono _ _ _ _)
   | (with_reducible exact LeO.refl _)
   | (with_reducible exact LeO.none _)
   | (with_reducible refine LeO.ite ?_ ?_)
   | (with_reducible refine LeO.bind ?_ (fun _ => ?_))
   | exact dec_Scaled.mono _ _ _ _
   | exact LeO.none _
   | refine LeO.ite ?_ ?_
   | refine LeO.bind ?_ (fun _ => ?_)
set_option maxHeartbeats 8000000 in
set_option maxRecDepth 100000 in
theorem dec_Of.calls (k : Nat) (a0 : Int) (r1 : Int) (r2 : Bool) (w : World) (h : dec_Of.f k a0 = some (r1, r2)) :
  Calls Tryz.prog 78 #[.int .i64 a0] w fun e w' => e = .returned (.tuple #[.int .i64 r1, .bool r2]) ∧ Below w.heap.size w w' := by
 have HB := Aside0.mk (Below.refl w.heap.size w)
 have H : ((dec_Scaled.f k a0 10000 1).bind fun bt129 => (some (bt129.1, bt129.2))) = some (r1, r2) := h
 clear h
 replace H := Option.bind_eq_some_iff.mp H
 obtain ⟨⟨t129, t130⟩, A20, H⟩ := H
 replace H : (some (t129, t130)) = some (r1, r2) := H
 have A2 := Aside0.mk A20
 clear A20
 simp only [Option.some.injEq, Prod.mk.injEq] at H
 obtain ⟨rfl, rfl⟩ := H
 go_enter Tryz.func78, Tryz.ntmps78
 go_wp2_with (first | ((with_reducible refine gate_callee (f := 76) rfl ?_); refine goesL_ (some 5) rfl rfl Tryz.func76 (by kernel_rfl) rfl #[.int .i64 a0, .int .i64 10000, .int .i64 1] rfl (by (try simp only [List.map_toArray, List.map_cons, List.map_nil]); first | done | rfl | (simp only [List.length_drop, List.length_take]; rfl)) ?_; (with_reducible refine (dec_Scaled.calls k a0 10000 1 t129 t130 _ A2.out).mono ?_); rintro e w3 ⟨rfl, hb⟩; refine ⟨_, rfl, ?_⟩; have n0_ := Aside0.mk (below_step (by repeat (first | (with_reducible first | exact HB.out | apply below_alloc | apply pw_below_drewN | apply below_drew1) | exact HB.out)) hb); clear HB; have HB := n0_; clear n0_; (try clear hb); (try clear hb2); (try clear hk); (try clear hi)))
 go_ret2
 exact ⟨by first | rfl | (simp [errW_none, errW_some] <;> rfl) | (simp [*, errW_none, errW_some] <;> rfl), by repeat (first | (with_reducible first | exact HB.out | apply below_alloc | apply pw_below_drewN | apply below_drew1) | exact HB.out)⟩
end Go.Proofs.YtaljjdodjimgdaaGreatDoor.P
namespace Go.Proofs.YtaljjdodjimgdaaGreatDoor.P
open Go.RowKit Go.Proofs.YtaljjdodjimgdaaGreatDoorW.PrintWords Go.Proofs.YtaljjdodjimgdaaGreatDoorW.PrintLast Go.Proofs.YtaljjdodjimgdaaGreatDoorW.PrintMore
attribute [local go_sem] max2_int min2_int max_two min_two max_three min_three max_four min_four
set_option linter.unusedVariables false
set_option linter.unusedSimpArgs false
def digits_put.j0 : Nat → Bool → Int → Bool → Option (Int × Bool)
 | 0, _, _, _ => none
 | k + 1, x2, x10, x28 => if x28 = true then (some (0, false)) else (if x2 = true then ((dec_Neg.f x10).bind fun bt136 => (some (bt136.1, bt136.2))) else (some (x10, true)))
def digits_put.f (k : Nat) (a0 : Int) (a1 : Int) (a2 : Bool) : Option (Int × Bool) := (dec_Of.f k a0).bind fun bt132 => ((dec_Add.f bt132.1 a1).bind fun bt134 => (if bt132.2 = true then (digits_put.j0 k a2 bt134.1 (!bt134.2)) else (digits_put.j0 k a2 bt134.1 true)))
theorem digits_put.mono_l : ∀ k, (∀ y0 y1 y2, LeO (digits_put.j0 k y0 y1 y2) (digits_put.j0 (k + 1) y0 y1 y2))
 | 0 => fun _ _ _ r h => by simp [digits_put.j0] at h
 | k + 1 => by
  have ih0 := digits_put.mono_l k
  ·intro y0 y1 y2
   unfold digits_put.j0
   repeat' first
   | (with_reducible exact ih0 _ _ _)
   | (with_reducible exact dec_Of.mono _ _)
   | (with_reducible exact LeO.refl _)
   | (with_reducible exact LeO.none _)
   | (with_reducible refine LeO.ite ?_ ?_)
   | (with_reducible refine LeO.bind ?_ (fun _ => ?_))
   | exact ih0 _ _ _
   | exact dec_Of.mono _ _
   | exact LeO.none _
   | refine LeO.ite ?_ ?_
   | refine LeO.bind ?_ (fun _ => ?_)
theorem digits_put.mono : ∀ a0 a1 a2 k, LeO (digits_put.f k a0 a1 a2) (digits_put.f (k + 1) a0 a1 a2) := by
 intro a0 a1 a2 k
 have ih0 := digits_put.mono_l k
 unfold digits_put.f
 repeat' first
   | (with_reducible exact ih0 _ _ _)
   | (with_reducible exact dec_Of.mono _ _)
   | (with_reducible exact LeO.refl _)
   | (with_reducible exact LeO.none _)
   | (with_reducible refine LeO.ite ?_ ?_)
   | (with_reducible refine LeO.bind ?_ (fun _ => ?_))
   | exact ih0 _ _ _
   | exact dec_Of.mono _ _
   | exact LeO.none _
   | refine LeO.ite ?_ ?_
   | refine LeO.bind ?_ (fun _ => ?_)
set_option maxHeartbeats 8000000 in
set_option maxRecDepth 100000 in
theorem digits_put.calls (k : Nat) (a0 : Int) (a1 : Int) (a2 : Bool) (r1 : Int) (r2 : Bool) (w : World) (h : digits_put.f k a0 a1 a2 = some (r1, r2)) :
  Calls Tryz.prog 58 #[.int .i64 a0, .int .i64 a1, .bool a2] w fun e w' => e = .returned (.tuple #[.int .i64 r1, .bool r2]) ∧ Below w.heap.size w w' := by
 have HB := Aside0.mk (Below.refl w.heap.size w)
 have H : ((dec_Of.f k a0).bind fun bt132 => ((dec_Add.f bt132.1 a1).bind fun bt134 => (if bt132.2 = true then (digits_put.j0 k a2 bt134.1 (!bt134.2)) else (digits_put.j0 k a2 bt134.1 true)))) = some (r1, r2) := h
 clear h
 replace H := Option.bind_eq_some_iff.mp H
 obtain ⟨⟨t132, t133⟩, A40, H⟩ := H
 replace H : ((dec_Add.f t132 a1).bind fun bt134 => (if t133 = true then (digits_put.j0 k a2 bt134.1 (!bt134.2)) else (digits_put.j0 k a2 bt134.1 true))) = some (r1, r2) := H
 have A4 := Aside0.mk A40
 clear A40
 replace H := Option.bind_eq_some_iff.mp H
 obtain ⟨⟨t134, t135⟩, A50, H⟩ := H
 replace H : (if t133 = true then (digits_put.j0 k a2 t134 (!t135)) else (digits_put.j0 k a2 t134 true)) = some (r1, r2) := H
 have A5 := Aside0.mk A50
 clear A50
 have HC6 := Aside0.mk H
 clear H
 go_enter Tryz.func58, Tryz.ntmps58
 go_upto_region 3 with (first | ((with_reducible refine gate_callee (f := 78) rfl ?_); refine goesL_ (some 14) rfl rfl Tryz.func78 (by kernel_rfl) rfl #[.int .i64 a0] rfl (by (try simp only [List.map_toArray, List.map_cons, List.map_nil]); first | done | rfl | (simp only [List.length_drop, List.length_take]; rfl)) ?_; (with_reducible refine (dec_Of.calls k a0 t132 t133 _ A4.out).mono ?_); rintro e w7 ⟨rfl, hb⟩; refine ⟨_, rfl, ?_⟩; have n0_ := Aside0.mk (below_step (by repeat (first | (with_reducible first | exact HB.out | apply below_alloc | apply pw_below_drewN | apply below_drew1) | exact HB.out)) hb); clear HB; have HB := n0_; clear n0_; (try clear hb); (try clear hb2); (try clear hk); (try clear hi)) | ((with_reducible refine gate_callee (f := 77) rfl ?_); refine goesL_ (some 20) rfl rfl Tryz.func77 (by kernel_rfl) rfl #[.int .i64 t132, .int .i64 a1] rfl (by (try simp only [List.map_toArray, List.map_cons, List.map_nil]); first | done | rfl | (simp only [List.length_drop, List.length_take]; rfl)) ?_; (with_reducible refine (dec_Add.calls t132 a1 t134 t135 _ A5.out).mono ?_); rintro e w' ⟨rfl, ⟨nd, rfl⟩⟩; refine ⟨_, rfl, ?_⟩))
 (try simp only [Act.put, List.setIfInBounds_toArray, List.set_cons_zero, List.set_cons_succ])
 go_cut [28] (fun v28 wc => ∃ (kq : Nat) (x28_5 : Bool), v28 = .bool x28_5 ∧ Aside0 (digits_put.j0 kq a2 t134 x28_5 = some (r1, r2)) ∧ Aside0 (kq ≤ k) ∧ Aside0 (Below w.heap.size w wc))
 case first =>
  have H := HC6.out
  clear HC6
  by_cases c8 : t133 = true
  ·subst c8
   have H1 : (digits_put.j0 k a2 t134 (!t135)) = some (r1, r2) := by rw [if_pos rfl] at H; exact H
   clear H
   have H := H1
   clear H1
   have H' := Aside0.mk H
   clear H
   go_wp2
   go_meet
   case rel => exact ⟨_, (!t135), (by first | rfl | (simp; done) | (simp [*]; done)), H', ⟨by first | omega | exact Nat.le_refl _⟩, ⟨by repeat (first | (with_reducible first | exact HB.out | apply below_alloc | apply pw_below_drewN | apply below_drew1) | exact HB.out)⟩⟩
  ·replace c8 := Bool.eq_false_iff.mpr c8
   subst c8
   have H1 : (digits_put.j0 k a2 t134 true) = some (r1, r2) := by rw [if_neg (show ¬ (false = true) by decide)] at H; exact H
   clear H
   have H := H1
   clear H1
   have H' := Aside0.mk H
   clear H
   go_wp2
   go_meet
   case rel => exact ⟨_, (true), (by first | rfl | (simp; done) | (simp [*]; done)), H', ⟨by first | omega | exact Nat.le_refl _⟩, ⟨by repeat (first | (with_reducible first | exact HB.out | apply below_alloc | apply pw_below_drewN | apply below_drew1) | exact HB.out)⟩⟩
 case rest =>
  clear HC6
  try clear p2
  try clear c5
  try clear c7
  try clear c8
  obtain ⟨kq, x28_5, rfl, HA, HJ5, HB⟩ := hcut
  cases kq with
  | zero => exact absurd HA.out (by simp [digits_put.j0])
  | succ kj5 =>
   have H := HA.out
   clear HA
   simp only [digits_put.j0] at H
   by_cases c9 : x28_5 = true
   ·subst c9
    have H1 : (some (0, false)) = some (r1, r2) := by rw [if_pos rfl] at H; exact H
    clear H
    have H := H1
    clear H1
    simp only [Option.some.injEq, Prod.mk.injEq] at H
    obtain ⟨rfl, rfl⟩ := H
    go_wp2
    go_ret2
    exact ⟨by first | rfl | (simp [errW_none, errW_some] <;> rfl) | (simp [*, errW_none, errW_some] <;> rfl), by repeat (first | (with_reducible first | exact HB.out | apply below_alloc | apply pw_below_drewN | apply below_drew1) | exact HB.out)⟩
   ·replace c9 := Bool.eq_false_iff.mpr c9
    subst c9
    have H1 : (if a2 = true then ((dec_Neg.f t134).bind fun bt136 => (some (bt136.1, bt136.2))) else (some (t134, true))) = some (r1, r2) := by rw [if_neg (show ¬ (false = true) by decide)] at H; exact H
    clear H
    have H := H1
    clear H1
    by_cases c10 : a2 = true
    ·subst c10
     have H1 : ((dec_Neg.f t134).bind fun bt136 => (some (bt136.1, bt136.2))) = some (r1, r2) := by rw [if_pos rfl] at H; exact H
     clear H
     have H := H1
     clear H1
     replace H := Option.bind_eq_some_iff.mp H
     obtain ⟨⟨t136, t137⟩, A110, H⟩ := H
     replace H : (some (t136, t137)) = some (r1, r2) := H
     have A11 := Aside0.mk A110
     clear A110
     simp only [Option.some.injEq, Prod.mk.injEq] at H
     obtain ⟨rfl, rfl⟩ := H
     go_wp2_with (first | ((with_reducible refine gate_callee (f := 79) rfl ?_); refine goesL_ (some 31) rfl rfl Tryz.func79 (by kernel_rfl) rfl #[.int .i64 t134] rfl (by (try simp only [List.map_toArray, List.map_cons, List.map_nil]); first | done | rfl | (simp only [List.length_drop, List.length_take]; rfl)) ?_; (with_reducible refine (dec_Neg.calls t134 t136 t137 _ A11.out).mono ?_); rintro e w' ⟨rfl, ⟨nd, rfl⟩⟩; refine ⟨_, rfl, ?_⟩))
     go_ret2
     exact ⟨by first | rfl | (simp [errW_none, errW_some] <;> rfl) | (simp [*, errW_none, errW_some] <;> rfl), by repeat (first | (with_reducible first | exact HB.out | apply below_alloc | apply pw_below_drewN | apply below_drew1) | exact HB.out)⟩
    ·replace c10 := Bool.eq_false_iff.mpr c10
     subst c10
     have H1 : (some (t134, true)) = some (r1, r2) := by rw [if_neg (show ¬ (false = true) by decide)] at H; exact H
     clear H
     have H := H1
     clear H1
     simp only [Option.some.injEq, Prod.mk.injEq] at H
     obtain ⟨rfl, rfl⟩ := H
     go_wp2
     go_ret2
     exact ⟨by first | rfl | (simp [errW_none, errW_some] <;> rfl) | (simp [*, errW_none, errW_some] <;> rfl), by repeat (first | (with_reducible first | exact HB.out | apply below_alloc | apply pw_below_drewN | apply below_drew1) | exact HB.out)⟩
end Go.Proofs.YtaljjdodjimgdaaGreatDoor.P
namespace Go.Proofs.YtaljjdodjimgdaaGreatDoor.P
open Go.RowKit Go.Proofs.YtaljjdodjimgdaaGreatDoorW.PrintWords Go.Proofs.YtaljjdodjimgdaaGreatDoorW.PrintLast Go.Proofs.YtaljjdodjimgdaaGreatDoorW.PrintMore
attribute [local go_sem] max2_int min2_int max_two min_two max_three min_three max_four min_four
set_option linter.unusedVariables false
set_option linter.unusedSimpArgs false
mutual
def digits_Read.j0 : Nat → Bool → ByteArray → Int → Int → Bool → Option (Int × Bool)
 | 0, _, _, _, _, _ => none
 | k + 1, x5, x7, x9, x11, x50 => if x50 = true then (some (0, false)) else (digits_Read.l0 k x5 x9 x11 (wrap64 (4 - (x7.size : Int))) 0)
def digits_Read.l0 : Nat → Bool → Int → Int → Int → Int → Option (Int × Bool)
 | 0, _, _, _, _, _ => none
 | k + 1, x5, x9, x11, x53, x54 => if x54 < x53 then (digits_Read.l0 k x5 x9 (wrap64 (x11 * 10)) x53 (wrap64 (x54 + 1))) else ((digits_put.f k x9 x11 x5).bind fun bt147 => (some (bt147.1, bt147.2)))
end
def digits_Read.f (k : Nat) (a0 : ByteArray) : Option (Int × Bool) := (strings_CutPrefix.f a0 (⟨#[45]⟩ : ByteArray)).bind fun bt138 => (if (a0.size : Int) > 40 then (some (0, false)) else ((strings_Cut.f bt138.1 (⟨#[46]⟩ : ByteArray)).bind fun bt140 => ((digits_number.f k bt140.1).bind fun bt143 => ((digits_number.f k bt140.2.1).bind fun bt145 => (if bt143.2 = true then (if bt140.2.2 = true then (if bt145.2 = true then (digits_Read.j0 k bt138.2 bt140.2.1 bt143.1 bt145.1 (decide ((bt140.2.1.size : Int) > 4))) else (digits_Read.j0 k bt138.2 bt140.2.1 bt143.1 bt145.1 true)) else (digits_Read.j0 k bt138.2 bt140.2.1 bt143.1 bt145.1 false)) else (digits_Read.j0 k bt138.2 bt140.2.1 bt143.1 bt145.1 true))))))
theorem digits_Read.mono_l : ∀ k, (∀ y0 y1 y2 y3 y4, LeO (digits_Read.j0 k y0 y1 y2 y3 y4) (digits_Read.j0 (k + 1) y0 y1 y2 y3 y4)) ∧ (∀ y0 y1 y2 y3 y4, LeO (digits_Read.l0 k y0 y1 y2 y3 y4) (digits_Read.l0 (k + 1) y0 y1 y2 y3 y4))
 | 0 => ⟨fun _ _ _ _ _ r h => by simp [digits_Read.j0] at h, fun _ _ _ _ _ r h => by simp [digits_Read.l0] at h⟩
 | k + 1 => by
  obtain ⟨ih0, ih1⟩ := digits_Read.mono_l k
  refine ⟨?_, ?_⟩
  ·intro y0 y1 y2 y3 y4
   unfold digits_Read.j0
   repeat' first
   | (with_reducible exact ih0 _ _ _ _ _)
   | (with_reducible exact ih1 _ _ _ _ _)
   | (with_reducible exact digits_number.mono _ _)
   | (with_reducible exact digits_put.mono _ _ _ _)
   | (with_reducible exact LeO.refl _)
   | (with_reducible exact LeO.none _)
   | (with_reducible refine LeO.ite ?_ ?_)
   | (with_reducible refine LeO.bind ?_ (fun _ => ?_))
   | exact ih0 _ _ _ _ _
   | exact ih1 _ _ _ _ _
   | exact digits_number.mono _ _
   | exact digits_put.mono _ _ _ _
   | exact LeO.none _
   | refine LeO.ite ?_ ?_
   | refine LeO.bind ?_ (fun _ => ?_)
  ·intro y0 y1 y2 y3 y4
   unfold digits_Read.l0
   repeat' first
   | (with_reducible exact ih0 _ _ _ _ _)
   | (with_reducible exact ih1 _ _ _ _ _)
   | (with_reducible exact digits_number.mono _ _)
   | (with_reducible exact digits_put.mono _ _ _ _)
   | (with_reducible exact LeO.refl _)
   | (with_reducible exact LeO.none _)
   | (with_reducible refine LeO.ite ?_ ?_)
   | (with_reducible refine LeO.bind ?_ (fun _ => ?_))
   | exact ih0 _ _ _ _ _
   | exact ih1 _ _ _ _ _
   | exact digits_number.mono _ _
   | exact digits_put.mono _ _ _ _
   | exact LeO.none _
   | refine LeO.ite ?_ ?_
   | refine LeO.bind ?_ (fun _ => ?_)
theorem digits_Read.mono : ∀ a0 k, LeO (digits_Read.f k a0) (digits_Read.f (k + 1) a0) := by
 intro a0 k
 obtain ⟨ih0, ih1⟩ := digits_Read.mono_l k
 unfold digits_Read.f
 repeat' first
   | (with_reducible exact ih0 _ _ _ _ _)
   | (with_reducible exact ih1 _ _ _ _ _)
   | (with_reducible exact digits_number.mono _ _)
   | (with_reducible exact digits_put.mono _ _ _ _)
   | (with_reducible exact LeO.refl _)
   | (with_reducible exact LeO.none _)
   | (with_reducible refine LeO.ite ?_ ?_)
   | (with_reducible refine LeO.bind ?_ (fun _ => ?_))
   | exact ih0 _ _ _ _ _
   | exact ih1 _ _ _ _ _
   | exact digits_number.mono _ _
   | exact digits_put.mono _ _ _ _
   | exact LeO.none _
   | refine LeO.ite ?_ ?_
   | refine LeO.bind ?_ (fun _ => ?_)
set_option maxHeartbeats 8000000 in
set_option maxRecDepth 100000 in
theorem digits_Read.calls (k : Nat) (a0 : ByteArray) (r1 : Int) (r2 : Bool) (w : World) (hG : GInv w) (h : digits_Read.f k a0 = some (r1, r2)) :
  Calls Tryz.prog 35 #[.string a0] w fun e w' => e = .returned (.tuple #[.int .i64 r1, .bool r2]) ∧ Below w.heap.size w w' := by
 have HG := Aside0.mk hG
 clear hG
 have HB := Aside0.mk (Below.refl w.heap.size w)
 have H : ((strings_CutPrefix.f a0 (⟨#[45]⟩ : ByteArray)).bind fun bt138 => (if (a0.size : Int) > 40 then (some (0, false)) else ((strings_Cut.f bt138.1 (⟨#[46]⟩ : ByteArray)).bind fun bt140 => ((digits_number.f k bt140.1).bind fun bt143 => ((digits_number.f k bt140.2.1).bind fun bt145 => (if bt143.2 = true then (if bt140.2.2 = true then (if bt145.2 = true then (digits_Read.j0 k bt138.2 bt140.2.1 bt143.1 bt145.1 (decide ((bt140.2.1.size : Int) > 4))) else (digits_Read.j0 k bt138.2 bt140.2.1 bt143.1 bt145.1 true)) else (digits_Read.j0 k bt138.2 bt140.2.1 bt143.1 bt145.1 false)) else (digits_Read.j0 k bt138.2 bt140.2.1 bt143.1 bt145.1 true))))))) = some (r1, r2) := h
 clear h
 replace H := Option.bind_eq_some_iff.mp H
 obtain ⟨⟨t138, t139⟩, A20, H⟩ := H
 replace H : (if (a0.size : Int) > 40 then (some (0, false)) else ((strings_Cut.f t138 (⟨#[46]⟩ : ByteArray)).bind fun bt140 => ((digits_number.f k bt140.1).bind fun bt143 => ((digits_number.f k bt140.2.1).bind fun bt145 => (if bt143.2 = true then (if bt140.2.2 = true then (if bt145.2 = true then (digits_Read.j0 k t139 bt140.2.1 bt143.1 bt145.1 (decide ((bt140.2.1.size : Int) > 4))) else (digits_Read.j0 k t139 bt140.2.1 bt143.1 bt145.1 true)) else (digits_Read.j0 k t139 bt140.2.1 bt143.1 bt145.1 false)) else (digits_Read.j0 k t139 bt140.2.1 bt143.1 bt145.1 true)))))) = some (r1, r2) := H
 have A2 := Aside0.mk A20
 clear A20
 by_cases c3 : (a0.size : Int) > 40
 ·rw [if_pos c3] at H
  have c3b0 : decide (40 < (a0.size : Int)) = true := decide_eq_true c3
  have c3b1 : decide (40 < a0.size) = true := decide_eq_true (by omega)
  clear c3
  simp only [Option.some.injEq, Prod.mk.injEq] at H
  obtain ⟨rfl, rfl⟩ := H
  go_enter Tryz.func35, Tryz.ntmps35
  go_wp2_with (first | ((with_reducible refine gate_callee (f := 20) rfl ?_); refine goesL_ (some 15) rfl rfl Tryz.func20 (by kernel_rfl) rfl #[.string a0, .string (⟨#[45]⟩ : ByteArray)] rfl (by (try simp only [List.map_toArray, List.map_cons, List.map_nil]); first | done | rfl | (simp only [List.length_drop, List.length_take]; rfl)) ?_; (with_reducible refine (strings_CutPrefix.calls a0 (⟨#[45]⟩ : ByteArray) t138 t139 _ A2.out).mono ?_); rintro e w4 ⟨rfl, hb⟩; refine ⟨_, rfl, ?_⟩; have n0_ := Aside0.mk (below_step (by repeat (first | (with_reducible first | exact HB.out | apply below_alloc | apply pw_below_drewN | apply below_drew1) | exact HB.out)) hb); clear HB; have HB := n0_; clear n0_; (try clear hb); (try clear hb2); (try clear hk); (try clear hi)))
  go_ret2
  exact ⟨by first | rfl | (simp [errW_none, errW_some] <;> rfl) | (simp [*, errW_none, errW_some] <;> rfl), by repeat (first | (with_reducible first | exact HB.out | apply below_alloc | apply pw_below_drewN | apply below_drew1) | exact HB.out)⟩
 ·rw [if_neg c3] at H
  have c3b0 : decide (40 < (a0.size : Int)) = false := decide_eq_false c3
  have c3b1 : decide (40 < a0.size) = false := decide_eq_false (by omega)
  clear c3
  replace H := Option.bind_eq_some_iff.mp H
  obtain ⟨⟨t140, t141, t142⟩, A50, H⟩ := H
  replace H : ((digits_number.f k t140).bind fun bt143 => ((digits_number.f k t141).bind fun bt145 => (if bt143.2 = true then (if t142 = true then (if bt145.2 = true then (digits_Read.j0 k t139 t141 bt143.1 bt145.1 (decide ((t141.size : Int) > 4))) else (digits_Read.j0 k t139 t141 bt143.1 bt145.1 true)) else (digits_Read.j0 k t139 t141 bt143.1 bt145.1 false)) else (digits_Read.j0 k t139 t141 bt143.1 bt145.1 true)))) = some (r1, r2) := H
  have A5 := Aside0.mk A50
  clear A50
  replace H := Option.bind_eq_some_iff.mp H
  obtain ⟨⟨t143, t144⟩, A60, H⟩ := H
  replace H : ((digits_number.f k t141).bind fun bt145 => (if t144 = true then (if t142 = true then (if bt145.2 = true then (digits_Read.j0 k t139 t141 t143 bt145.1 (decide ((t141.size : Int) > 4))) else (digits_Read.j0 k t139 t141 t143 bt145.1 true)) else (digits_Read.j0 k t139 t141 t143 bt145.1 false)) else (digits_Read.j0 k t139 t141 t143 bt145.1 true))) = some (r1, r2) := H
  have A6 := Aside0.mk A60
  clear A60
  replace H := Option.bind_eq_some_iff.mp H
  obtain ⟨⟨t145, t146⟩, A70, H⟩ := H
  replace H : (if t144 = true then (if t142 = true then (if t146 = true then (digits_Read.j0 k t139 t141 t143 t145 (decide ((t141.size : Int) > 4))) else (digits_Read.j0 k t139 t141 t143 t145 true)) else (digits_Read.j0 k t139 t141 t143 t145 false)) else (digits_Read.j0 k t139 t141 t143 t145 true)) = some (r1, r2) := H
  have A7 := Aside0.mk A70
  clear A70
  have HC8 := Aside0.mk H
  clear H
  go_enter Tryz.func35, Tryz.ntmps35
  go_upto_region 7 with (first | ((with_reducible refine gate_callee (f := 20) rfl ?_); refine goesL_ (some 15) rfl rfl Tryz.func20 (by kernel_rfl) rfl #[.string a0, .string (⟨#[45]⟩ : ByteArray)] rfl (by (try simp only [List.map_toArray, List.map_cons, List.map_nil]); first | done | rfl | (simp only [List.length_drop, List.length_take]; rfl)) ?_; (with_reducible refine (strings_CutPrefix.calls a0 (⟨#[45]⟩ : ByteArray) t138 t139 _ A2.out).mono ?_); rintro e w9 ⟨rfl, hb⟩; refine ⟨_, rfl, ?_⟩; have n0_ := Aside0.mk (below_step (by repeat (first | (with_reducible first | exact HB.out | apply below_alloc | apply pw_below_drewN | apply below_drew1) | exact HB.out)) hb); clear HB; have HB := n0_; clear n0_; (try clear hb); (try clear hb2); (try clear hk); (try clear hi)) | ((with_reducible refine gate_callee (f := 56) rfl ?_); refine goesL_ (some 23) rfl rfl Tryz.func56 (by kernel_rfl) rfl #[.string t138, .string (⟨#[46]⟩ : ByteArray)] rfl (by (try simp only [List.map_toArray, List.map_cons, List.map_nil]); first | done | rfl | (simp only [List.length_drop, List.length_take]; rfl)) ?_; (with_reducible refine (strings_Cut.calls t138 (⟨#[46]⟩ : ByteArray) t140 t141 t142 _ ?side1 A5.out).mono ?_); (case side1 => exact GInv.below HG.out (by repeat (first | (with_reducible first | exact HB.out | apply below_alloc | apply pw_below_drewN | apply below_drew1) | exact HB.out))); rintro e w10 ⟨rfl, hb⟩; refine ⟨_, rfl, ?_⟩; have n0_ := Aside0.mk (below_step (by repeat (first | (with_reducible first | exact HB.out | apply below_alloc | apply pw_below_drewN | apply below_drew1) | exact HB.out)) hb); clear HB; have HB := n0_; clear n0_; (try clear hb); (try clear hb2); (try clear hk); (try clear hi)) | ((with_reducible refine gate_callee (f := 57) rfl ?_); refine goesL_ (some 29) rfl rfl Tryz.func57 (by kernel_rfl) rfl #[.string t140] rfl (by (try simp only [List.map_toArray, List.map_cons, List.map_nil]); first | done | rfl | (simp only [List.length_drop, List.length_take]; rfl)) ?_; (with_reducible refine (digits_number.calls k t140 t143 t144 _ A6.out).mono ?_); rintro e w11 ⟨rfl, hb⟩; refine ⟨_, rfl, ?_⟩; have n0_ := Aside0.mk (below_step (by repeat (first | (with_reducible first | exact HB.out | apply below_alloc | apply pw_below_drewN | apply below_drew1) | exact HB.out)) hb); clear HB; have HB := n0_; clear n0_; (try clear hb); (try clear hb2); (try clear hk); (try clear hi)) | ((with_reducible refine gate_callee (f := 57) rfl ?_); refine goesL_ (some 34) rfl rfl Tryz.func57 (by kernel_rfl) rfl #[.string t141] rfl (by (try simp only [List.map_toArray, List.map_cons, List.map_nil]); first | done | rfl | (simp only [List.length_drop, List.length_take]; rfl)) ?_; (with_reducible refine (digits_number.calls k t141 t145 t146 _ A7.out).mono ?_); rintro e w12 ⟨rfl, hb⟩; refine ⟨_, rfl, ?_⟩; have n0_ := Aside0.mk (below_step (by repeat (first | (with_reducible first | exact HB.out | apply below_alloc | apply pw_below_drewN | apply below_drew1) | exact HB.out)) hb); clear HB; have HB := n0_; clear n0_; (try clear hb); (try clear hb2); (try clear hk); (try clear hi)))
  (try simp only [Act.put, List.setIfInBounds_toArray, List.set_cons_zero, List.set_cons_succ])
  go_cut [50] (fun v50 wc => ∃ (kq : Nat) (x50_7 : Bool), v50 = .bool x50_7 ∧ Aside0 (digits_Read.j0 kq t139 t141 t143 t145 x50_7 = some (r1, r2)) ∧ Aside0 (kq ≤ k) ∧ Aside0 (Below w.heap.size w wc))
  case first =>
   have H := HC8.out
   clear HC8
   by_cases c13 : t144 = true
   ·subst c13
    have H1 : (if t142 = true then (if t146 = true then (digits_Read.j0 k t139 t141 t143 t145 (decide ((t141.size : Int) > 4))) else (digits_Read.j0 k t139 t141 t143 t145 true)) else (digits_Read.j0 k t139 t141 t143 t145 false)) = some (r1, r2) := by rw [if_pos rfl] at H; exact H
    clear H
    have H := H1
    clear H1
    by_cases c14 : t142 = true
    ·subst c14
     have H1 : (if t146 = true then (digits_Read.j0 k t139 t141 t143 t145 (decide ((t141.size : Int) > 4))) else (digits_Read.j0 k t139 t141 t143 t145 true)) = some (r1, r2) := by rw [if_pos rfl] at H; exact H
     clear H
     have H := H1
     clear H1
     by_cases c15 : t146 = true
     ·subst c15
      have H1 : (digits_Read.j0 k t139 t141 t143 t145 (decide ((t141.size : Int) > 4))) = some (r1, r2) := by rw [if_pos rfl] at H; exact H
      clear H
      have H := H1
      clear H1
      have H' := Aside0.mk H
      clear H
      go_wp2
      go_meet
      case rel => exact ⟨_, (decide ((t141.size : Int) > 4)), (by first | rfl | (simp; done) | (simp [*]; done)), H', ⟨by first | omega | exact Nat.le_refl _⟩, ⟨by repeat (first | (with_reducible first | exact HB.out | apply below_alloc | apply pw_below_drewN | apply below_drew1) | exact HB.out)⟩⟩
     ·replace c15 := Bool.eq_false_iff.mpr c15
      subst c15
      have H1 : (digits_Read.j0 k t139 t141 t143 t145 true) = some (r1, r2) := by rw [if_neg (show ¬ (false = true) by decide)] at H; exact H
      clear H
      have H := H1
      clear H1
      have H' := Aside0.mk H
      clear H
      go_wp2
      go_meet
      case rel => exact ⟨_, (true), (by first | rfl | (simp; done) | (simp [*]; done)), H', ⟨by first | omega | exact Nat.le_refl _⟩, ⟨by repeat (first | (with_reducible first | exact HB.out | apply below_alloc | apply pw_below_drewN | apply below_drew1) | exact HB.out)⟩⟩
    ·replace c14 := Bool.eq_false_iff.mpr c14
     subst c14
     have H1 : (digits_Read.j0 k t139 t141 t143 t145 false) = some (r1, r2) := by rw [if_neg (show ¬ (false = true) by decide)] at H; exact H
     clear H
     have H := H1
     clear H1
     have H' := Aside0.mk H
     clear H
     go_wp2
     go_meet
     case rel => exact ⟨_, (false), (by first | rfl | (simp; done) | (simp [*]; done)), H', ⟨by first | omega | exact Nat.le_refl _⟩, ⟨by repeat (first | (with_reducible first | exact HB.out | apply below_alloc | apply pw_below_drewN | apply below_drew1) | exact HB.out)⟩⟩
   ·replace c13 := Bool.eq_false_iff.mpr c13
    subst c13
    have H1 : (digits_Read.j0 k t139 t141 t143 t145 true) = some (r1, r2) := by rw [if_neg (show ¬ (false = true) by decide)] at H; exact H
    clear H
    have H := H1
    clear H1
    have H' := Aside0.mk H
    clear H
    go_wp2
    go_meet
    case rel => exact ⟨_, (true), (by first | rfl | (simp; done) | (simp [*]; done)), H', ⟨by first | omega | exact Nat.le_refl _⟩, ⟨by repeat (first | (with_reducible first | exact HB.out | apply below_alloc | apply pw_below_drewN | apply below_drew1) | exact HB.out)⟩⟩
  case rest =>
   clear HC8
   try clear c1
   try clear c2
   try clear p2
   try clear c3
   try clear c3b0
   try clear c3b1
   try clear c5
   try clear c13
   try clear c14
   try clear c15
   obtain ⟨kq, x50_7, rfl, HA, HJ7, HB⟩ := hcut
   cases kq with
   | zero => exact absurd HA.out (by simp [digits_Read.j0])
   | succ kj7 =>
    have H := HA.out
    clear HA
    simp only [digits_Read.j0] at H
    by_cases c16 : x50_7 = true
    ·subst c16
     have H1 : (some (0, false)) = some (r1, r2) := by rw [if_pos rfl] at H; exact H
     clear H
     have H := H1
     clear H1
     simp only [Option.some.injEq, Prod.mk.injEq] at H
     obtain ⟨rfl, rfl⟩ := H
     go_wp2
     go_ret2
     exact ⟨by first | rfl | (simp [errW_none, errW_some] <;> rfl) | (simp [*, errW_none, errW_some] <;> rfl), by repeat (first | (with_reducible first | exact HB.out | apply below_alloc | apply pw_below_drewN | apply below_drew1) | exact HB.out)⟩
    ·replace c16 := Bool.eq_false_iff.mpr c16
     subst c16
     have H1 : (digits_Read.l0 kj7 t139 t143 t145 (wrap64 (4 - (t141.size : Int))) 0) = some (r1, r2) := by rw [if_neg (show ¬ (false = true) by decide)] at H; exact H
     clear H
     have H := H1
     clear H1
     have H' := Aside0.mk H
     clear H
     go_wp2
     go_loopg [11, 54] kj7 (fun kq v11 v54 w' => ∃ (x11_2 : Int) (x54_2 : Int), v11 = .int .i64 x11_2 ∧ v54 = .int .i64 x54_2 ∧ Aside0 (digits_Read.l0 kq t139 t143 x11_2 (wrap64 (4 - (t141.size : Int))) x54_2 = some (r1, r2)) ∧ Aside0 (kq ≤ kj7) ∧ Aside0 (Below w.heap.size w w'))
     case atStart => exact ⟨(t145), (0), (by first | rfl | (simp; done) | (simp [*]; done)), (by first | rfl | (simp; done) | (simp [*]; done)), H', ⟨Nat.le_refl _⟩, ⟨by repeat (first | (with_reducible first | exact HB.out | apply below_alloc | apply pw_below_drewN | apply below_drew1) | exact HB.out)⟩⟩
     case round =>
      clear H'
      try clear c1
      try clear c2
      try clear p2
      try clear c3
      try clear c3b0
      try clear c3b1
      try clear c5
      try clear p6
      try clear c13
      try clear c14
      try clear c15
      try clear c16
      try clear p2
      obtain ⟨x11_2, x54_2, rfl, rfl, HA, HK2, HB⟩ := hrel
      cases gk with
      | zero => exact absurd HA.out (by simp [digits_Read.l0])
      | succ k2 =>
       have H := HA.out
       clear HA
       simp only [digits_Read.l0] at H
       by_cases c17 : x54_2 < (wrap64 (4 - (t141.size : Int)))
       ·rw [if_pos c17] at H
        have c17b0 : decide (x54_2 < (wrap64 (4 - (t141.size : Int)))) = true := decide_eq_true c17
        clear c17
        have H' := Aside0.mk H
        clear H
        go_wp2
        go_roundg k2
        case measure => have := HJ7.out; have := HK2.out; omega
        case rel => exact ⟨(wrap64 (x11_2 * 10)), (wrap64 (x54_2 + 1)), (by first | rfl | (simp; done) | (simp [*]; done)), (by first | rfl | (simp; done) | (simp [*]; done)), H', ⟨by have := HJ7.out; have := HK2.out; omega⟩, ⟨by repeat (first | (with_reducible first | exact HB.out | apply below_alloc | apply pw_below_drewN | apply below_drew1) | exact HB.out)⟩⟩
       ·rw [if_neg c17] at H
        have c17b0 : decide (x54_2 < (wrap64 (4 - (t141.size : Int)))) = false := decide_eq_false c17
        clear c17
        replace H := Option.bind_eq_some_iff.mp H
        obtain ⟨⟨t147, t148⟩, A180, H⟩ := H
        replace H : (some (t147, t148)) = some (r1, r2) := H
        have A18 := Aside0.mk A180
        clear A180
        simp only [Option.some.injEq, Prod.mk.injEq] at H
        obtain ⟨rfl, rfl⟩ := H
        go_wp2_with (first | ((with_reducible refine gate_callee (f := 58) rfl ?_); refine goesL_ (some 62) rfl rfl Tryz.func58 (by kernel_rfl) rfl #[.int .i64 t143, .int .i64 x11_2, .bool t139] rfl (by (try simp only [List.map_toArray, List.map_cons, List.map_nil]); first | done | rfl | (simp only [List.length_drop, List.length_take]; rfl)) ?_; (with_reducible refine (digits_put.calls k2 t143 x11_2 t139 t147 t148 _ A18.out).mono ?_); rintro e w19 ⟨rfl, hb⟩; refine ⟨_, rfl, ?_⟩; have n0_ := Aside0.mk (below_step (by repeat (first | (with_reducible first | exact HB.out | apply below_alloc | apply pw_below_drewN | apply below_drew1) | exact HB.out)) hb); clear HB; have HB := n0_; clear n0_; (try clear hb); (try clear hb2); (try clear hk); (try clear hi)))
        go_ret2
        exact ⟨by first | rfl | (simp [errW_none, errW_some] <;> rfl) | (simp [*, errW_none, errW_some] <;> rfl), by repeat (first | (with_reducible first | exact HB.out | apply below_alloc | apply pw_below_drewN | apply below_drew1) | exact HB.out)⟩
end Go.Proofs.YtaljjdodjimgdaaGreatDoor.P
namespace Go.Proofs.YtaljjdodjimgdaaGreatDoor.P
open Go.RowKit Go.Proofs.YtaljjdodjimgdaaGreatDoorW.PrintWords Go.Proofs.YtaljjdodjimgdaaGreatDoorW.PrintLast Go.Proofs.YtaljjdodjimgdaaGreatDoorW.PrintMore
attribute [local go_sem] max2_int min2_int max_two min_two max_three min_three max_four min_four
set_option linter.unusedVariables false
set_option linter.unusedSimpArgs false
def digits_Parse.f (k : Nat) (a0 : ByteArray) : Option (Int × Bool) := (digits_Read.f k a0).bind fun bt149 => (if bt149.2 = true then ((digits_Text.f k bt149.1).bind fun t151 => (if t151.toList = a0.toList then (some (bt149.1, true)) else (some (0, false)))) else (some (0, false)))
theorem digits_Parse.mono : ∀ a0 k, LeO (digits_Parse.f k a0) (digits_Parse.f (k + 1) a0) := by
 intro a0 k
 unfold digits_Parse.f
 repeat' first
   | (with_reducible exact digits_Read.mono _ _)
   | (with_reducible exact digits_Text.mono _ _)
   | (with_reducible exact LeO.refl _)
   | (with_reducible exact LeO.none _)
   | (with_reducible refine LeO.ite ?_ ?_)
   | (with_reducible refine LeO.bind ?_ (fun _ => ?_))
   | exact digits_Read.mono _ _
   | exact digits_Text.mono _ _
   | exact LeO.none _
   | refine LeO.ite ?_ ?_
   | refine LeO.bind ?_ (fun _ => ?_)
set_option maxHeartbeats 8000000 in
set_option maxRecDepth 100000 in
theorem digits_Parse.calls (k : Nat) (a0 : ByteArray) (r1 : Int) (r2 : Bool) (w : World) (hG : GInv w) (h : digits_Parse.f k a0 = some (r1, r2)) :
  Calls Tryz.prog 21 #[.string a0] w fun e w' => e = .returned (.tuple #[.int .i64 r1, .bool r2]) ∧ Below w.heap.size w w' := by
 have HG := Aside0.mk hG
 clear hG
 have HB := Aside0.mk (Below.refl w.heap.size w)
 have H : ((digits_Read.f k a0).bind fun bt149 => (if bt149.2 = true then ((digits_Text.f k bt149.1).bind fun t151 => (if t151.toList = a0.toList then (some (bt149.1, true)) else (some (0, false)))) else (some (0, false)))) = some (r1, r2) := h
 clear h
 replace H := Option.bind_eq_some_iff.mp H
 obtain ⟨⟨t149, t150⟩, A20, H⟩ := H
 replace H : (if t150 = true then ((digits_Text.f k t149).bind fun t151 => (if t151.toList = a0.toList then (some (t149, true)) else (some (0, false)))) else (some (0, false))) = some (r1, r2) := H
 have A2 := Aside0.mk A20
 clear A20
 by_cases c3 : t150 = true
 ·subst c3
  have H1 : ((digits_Text.f k t149).bind fun t151 => (if t151.toList = a0.toList then (some (t149, true)) else (some (0, false)))) = some (r1, r2) := by rw [if_pos rfl] at H; exact H
  clear H
  have H := H1
  clear H1
  replace H := Option.bind_eq_some_iff.mp H
  obtain ⟨t151, A40, H⟩ := H
  replace H : (if t151.toList = a0.toList then (some (t149, true)) else (some (0, false))) = some (r1, r2) := H
  have A4 := Aside0.mk A40
  clear A40
  by_cases c5 : t151.toList = a0.toList
  ·rw [if_pos c5] at H
   have c5b0 : (t151.toList == a0.toList) = true := beq_iff_eq.mpr c5
   have c5b1 : (t151.toList != a0.toList) = false := bne_eq_false_iff_eq.mpr c5
   clear c5
   simp only [Option.some.injEq, Prod.mk.injEq] at H
   obtain ⟨rfl, rfl⟩ := H
   go_enter Tryz.func21, Tryz.ntmps21
   go_wp2_with (first | ((with_reducible refine gate_callee (f := 35) rfl ?_); refine goesL_ (some 8) rfl rfl Tryz.func35 (by kernel_rfl) rfl #[.string a0] rfl (by (try simp only [List.map_toArray, List.map_cons, List.map_nil]); first | done | rfl | (simp only [List.length_drop, List.length_take]; rfl)) ?_; (with_reducible refine (digits_Read.calls k a0 t149 true _ ?side1 A2.out).mono ?_); (case side1 => exact GInv.below HG.out (by repeat (first | (with_reducible first | exact HB.out | apply below_alloc | apply pw_below_drewN | apply below_drew1) | exact HB.out))); rintro e w6 ⟨rfl, hb⟩; refine ⟨_, rfl, ?_⟩; have n0_ := Aside0.mk (below_step (by repeat (first | (with_reducible first | exact HB.out | apply below_alloc | apply pw_below_drewN | apply below_drew1) | exact HB.out)) hb); clear HB; have HB := n0_; clear n0_; (try clear hb); (try clear hb2); (try clear hk); (try clear hi)) | (go_at_call 33; (with_reducible refine (digits_Text.calls k t149 t151 _ ?side1 A4.out).mono ?_); (case side1 => exact GInv.below HG.out (by repeat (first | (with_reducible first | exact HB.out | apply below_alloc | apply pw_below_drewN | apply below_drew1) | exact HB.out))); rintro e w7 ⟨rfl, hb⟩; have n0_ := Aside0.mk (below_step (by repeat (first | (with_reducible first | exact HB.out | apply below_alloc | apply pw_below_drewN | apply below_drew1) | exact HB.out)) hb); clear HB; have HB := n0_; clear n0_; (try clear hb); (try clear hb2); (try clear hk); (try clear hi)))
   go_ret2
   exact ⟨by first | rfl | (simp [errW_none, errW_some] <;> rfl) | (simp [*, errW_none, errW_some] <;> rfl), by repeat (first | (with_reducible first | exact HB.out | apply below_alloc | apply pw_below_drewN | apply below_drew1) | exact HB.out)⟩
  ·rw [if_neg c5] at H
   have c5b0 : (t151.toList == a0.toList) = false := beq_eq_false_iff_ne.mpr c5
   have c5b1 : (t151.toList != a0.toList) = true := bne_iff_ne.mpr c5
   simp only [Option.some.injEq, Prod.mk.injEq] at H
   obtain ⟨rfl, rfl⟩ := H
   go_enter Tryz.func21, Tryz.ntmps21
   go_wp2_with (first | ((with_reducible refine gate_callee (f := 35) rfl ?_); refine goesL_ (some 8) rfl rfl Tryz.func35 (by kernel_rfl) rfl #[.string a0] rfl (by (try simp only [List.map_toArray, List.map_cons, List.map_nil]); first | done | rfl | (simp only [List.length_drop, List.length_take]; rfl)) ?_; (with_reducible refine (digits_Read.calls k a0 t149 true _ ?side1 A2.out).mono ?_); (case side1 => exact GInv.below HG.out (by repeat (first | (with_reducible first | exact HB.out | apply below_alloc | apply pw_below_drewN | apply below_drew1) | exact HB.out))); rintro e w8 ⟨rfl, hb⟩; refine ⟨_, rfl, ?_⟩; have n0_ := Aside0.mk (below_step (by repeat (first | (with_reducible first | exact HB.out | apply below_alloc | apply pw_below_drewN | apply below_drew1) | exact HB.out)) hb); clear HB; have HB := n0_; clear n0_; (try clear hb); (try clear hb2); (try clear hk); (try clear hi)) | (go_at_call 33; (with_reducible refine (digits_Text.calls k t149 t151 _ ?side1 A4.out).mono ?_); (case side1 => exact GInv.below HG.out (by repeat (first | (with_reducible first | exact HB.out | apply below_alloc | apply pw_below_drewN | apply below_drew1) | exact HB.out))); rintro e w9 ⟨rfl, hb⟩; have n0_ := Aside0.mk (below_step (by repeat (first | (with_reducible first | exact HB.out | apply below_alloc | apply pw_below_drewN | apply below_drew1) | exact HB.out)) hb); clear HB; have HB := n0_; clear n0_; (try clear hb); (try clear hb2); (try clear hk); (try clear hi)))
   go_ret2
   exact ⟨by first | rfl | (simp [errW_none, errW_some] <;> rfl) | (simp [*, errW_none, errW_some] <;> rfl), by repeat (first | (with_reducible first | exact HB.out | apply below_alloc | apply pw_below_drewN | apply below_drew1) | exact HB.out)⟩
 ·replace c3 := Bool.eq_false_iff.mpr c3
  subst c3
  have H1 : (some (0, false)) = some (r1, r2) := by rw [if_neg (show ¬ (false = true) by decide)] at H; exact H
  clear H
  have H := H1
  clear H1
  simp only [Option.some.injEq, Prod.mk.injEq] at H
  obtain ⟨rfl, rfl⟩ := H
  go_enter Tryz.func21, Tryz.ntmps21
  go_wp2_with (first | ((with_reducible refine gate_callee (f := 35) rfl ?_); refine goesL_ (some 8) rfl rfl Tryz.func35 (by kernel_rfl) rfl #[.string a0] rfl (by (try simp only [List.map_toArray, List.map_cons, List.map_nil]); first | done | rfl | (simp only [List.length_drop, List.length_take]; rfl)) ?_; (with_reducible refine (digits_Read.calls k a0 t149 false _ ?side1 A2.out).mono ?_); (case side1 => exact GInv.below HG.out (by repeat (first | (with_reducible first | exact HB.out | apply below_alloc | apply pw_below_drewN | apply below_drew1) | exact HB.out))); rintro e w10 ⟨rfl, hb⟩; refine ⟨_, rfl, ?_⟩; have n0_ := Aside0.mk (below_step (by repeat (first | (with_reducible first | exact HB.out | apply below_alloc | apply pw_below_drewN | apply below_drew1) | exact HB.out)) hb); clear HB; have HB := n0_; clear n0_; (try clear hb); (try clear hb2); (try clear hk); (try clear hi)))
  go_ret2
  exact ⟨by first | rfl | (simp [errW_none, errW_some] <;> rfl) | (simp [*, errW_none, errW_some] <;> rfl), by repeat (first | (with_reducible first | exact HB.out | apply below_alloc | apply pw_below_drewN | apply below_drew1) | exact HB.out)⟩
end Go.Proofs.YtaljjdodjimgdaaGreatDoor.P
namespace Go.Proofs.YtaljjdodjimgdaaGreatDoor.P
open Go.RowKit Go.Proofs.YtaljjdodjimgdaaGreatDoorW.PrintWords Go.Proofs.YtaljjdodjimgdaaGreatDoorW.PrintLast Go.Proofs.YtaljjdodjimgdaaGreatDoorW.PrintMore
theorem may_nn {n : Int} (h : 0 ≤ n) : dec_May.f n = some true := by
  unfold dec_May.f
  congr 1
  exact bne_iff_ne.mpr (by omega)
theorem size_nn {n : Int} (h : 0 ≤ n) (h1 : n ≤ 9223372036854775807) : dec_size.f n = some n := by
  unfold dec_size.f
  rw [if_neg (by omega), u64w h (by omega)]
theorem sign_nn {n : Int} (h : 0 ≤ n) : dec_Sign.f n = some (if n = 0 then 0 else 1) := by
  unfold dec_Sign.f
  by_cases h0 : n = 0
  · subst h0; rfl
  · rw [if_neg (by omega), if_pos (by omega), if_neg h0]
theorem scaled_one (n b : Int) (h0 : 0 ≤ n) (h1 : n ≤ 9223372036854775807) (b0 : 0 < b) (b1 : b ≤ 10000) :
    Ev (fun k => dec_Scaled.f k n b 1) (if n * b ≤ 9223372036854775807 then (n * b, true) else (0, false)) := by
  have hp : 0 ≤ n * b := Int.mul_nonneg h0 (by omega)
  have hq : n * b ≤ 9223372036854775807 * 10000 := Int.mul_le_mul h1 b1 (by omega) (by omega)
  unfold dec_Scaled.f
  refine ev_eq (may_nn h0) (ev_pos rfl (ev_eq (may_nn (by omega)) (ev_pos rfl (ev_eq (may_nn (by omega)) (ev_pos rfl ?_)))))
  refine ev_succ (fun k => dec_Scaled.j0.eq_2 ..) ?_
  refine ev_neg (by decide) (ev_eq (size_nn (by omega) (by omega)) (ev_eq (size_nn h0 h1) (ev_eq (size_nn (by omega) (by omega)) ?_)))
  have em : bits_Mul64.f n b = some (n * b / 18446744073709551616, n * b % 18446744073709551616) := by
    unfold bits_Mul64.f
    rw [if_pos ⟨h0, by omega, by omega, by omega⟩]
  generalize n * b = p at *
  refine ev_eq em ?_
  by_cases hb : p < 18446744073709551616
  · have e1 : p / 18446744073709551616 = 0 := by omega
    have e2 : p % 18446744073709551616 = p := by omega
    simp only [e1, e2]
    refine ev_neg (by omega) ?_
    have ed : bits_Div64.f 0 p 1 = some (p, 0) := by
      unfold bits_Div64.f
      rw [if_pos ⟨rfl, hp, by omega, by omega, by omega⟩]
      simp
    refine ev_eq ed (ev_neg (by show ¬ (0 : Int) ≥ IntKind.u64.wrap (1 - 0); rw [u64w (by omega) (by omega)]; omega) ?_)
    refine ev_succ (fun k => dec_Scaled.j1.eq_2 ..) ?_
    by_cases hm : p ≤ 9223372036854775807
    · rw [if_pos hm]
      refine ev_neg (by omega) (ev_eq (sign_nn h0) (ev_eq (sign_nn (by omega)) (ev_eq (sign_nn (by omega)) (ev_neg ?_ ?_))))
      · rw [if_neg (by omega : ¬ b = 0)]
        by_cases hz : n = 0 <;> simp [hz, wrap64]
      · rw [w64 (by omega) hm]
        exact ev_now _
    · rw [if_neg hm]
      exact ev_pos (by omega) (ev_now _)
  · rw [if_neg (by omega)]
    exact ev_pos (by simp only; omega) (ev_now _)
theorem add_nn {a b : Int} (ha : 0 ≤ a) (ha1 : a ≤ 9223372036854775807) (hb : 0 ≤ b) (hb1 : b ≤ 9223372036854775807) :
    dec_Add.f a b = some (if a + b ≤ 9223372036854775807 then (a + b, true) else (0, false)) := by
  unfold dec_Add.f
  rw [may_nn ha, may_nn hb]
  simp only [Option.bind_some, if_true]
  by_cases h : a + b ≤ 9223372036854775807
  · rw [if_pos h, w64 (by omega) h, may_nn (by omega)]
    simp only [Option.bind_some, if_true]
    rw [if_neg (by omega : ¬ a + b < 0), if_neg (by omega : ¬ a < 0)]
    split <;> (try split) <;> rfl
  · rw [if_neg h]
    have e : wrap64 (a + b) = a + b - 18446744073709551616 := by unfold wrap64; omega
    rw [e]
    by_cases hm : a + b - 18446744073709551616 = -9223372036854775808
    · rw [hm]; rfl
    · have : dec_May.f (a + b - 18446744073709551616) = some true := by
        unfold dec_May.f
        congr 1
        exact bne_iff_ne.mpr hm
      rw [this]
      simp only [Option.bind_some, if_true]
      rw [if_pos (by omega : a > 0), if_pos (by omega : b > 0), if_pos (by omega)]
def numOf : List UInt8 → Nat → Option Nat
  | [], n => some n
  | b :: l, n => if 48 ≤ b.toNat ∧ b.toNat ≤ 57 ∧ n * 10 + (b.toNat - 48) ≤ 9223372036854775807 then numOf l (n * 10 + (b.toNat - 48)) else none
def numAns (o : Option Nat) (e : Bool) : Int × Bool := match o with | some n => ((n : Int), e) | none => (0, false)
theorem number_loop (s : List UInt8) (hs : s.length ≤ 1000000) (d : Nat) : ∀ (i n : Nat), i + d = s.length → n ≤ 9223372036854775807 →
    Ev (fun k => digits_number.l0 k (mkS s) (n : Int) (s.length : Int) (i : Int)) (numAns (numOf (s.drop i) n) (!s.isEmpty)) := by
  induction d with
  | zero =>
    intro i n hi hn
    refine ev_succ (fun k => digits_number.l0.eq_2 ..) ?_
    rw [List.drop_eq_nil_of_le (by omega)]
    refine ev_neg (by omega) ?_
    rw [mkS_toList]
    exact ev_now _
  | succ d ih =>
    intro i n hi hn
    have hl : i < s.length := by omega
    refine ev_succ (fun k => digits_number.l0.eq_2 ..) ?_
    refine ev_pos (by omega) (ev_pos (by omega) (ev_pos (by rw [mkS_size]; omega) ?_))
    have hb : bt (mkS s) (i : Int) = (s[i].toNat : Int) := bt_get (mkS s) i hl
    rw [List.drop_eq_getElem_cons hl]
    simp only [hb, numOf]
    generalize hx : s[i].toNat = x
    have hx2 : x < 256 := by rw [← hx]; exact (s[i]).toNat_lt
    have bad : Ev (fun k => digits_number.j1 k (mkS s) (n : Int) (i : Int) (s.length : Int) (i : Int) true) (0, false) :=
      ev_succ (fun k => digits_number.j1.eq_2 ..) (ev_pos rfl (ev_now _))
    by_cases h1 : x < 48
    · rw [if_neg (by omega)]
      exact ev_pos (by omega) bad
    · refine ev_neg (by omega) ?_
      by_cases h2 : 57 < x
      · rw [if_neg (by omega), show (decide ((x : Int) > 57)) = true from decide_eq_true (by omega)]
        exact bad
      · rw [show (decide ((x : Int) > 57)) = false from decide_eq_false (by omega)]
        refine ev_succ (fun k => digits_number.j1.eq_2 ..) (ev_neg (by decide) ?_)
        refine ev_bind (scaled_one (n : Int) 10 (by omega) (by omega) (by omega) (by omega)) ?_
        refine ev_pos (by omega) (ev_pos (by rw [mkS_size]; omega) ?_)
        simp only [hb, hx]
        have e3 : ((x : Int) - 48) % 256 = ((x - 48 : Nat) : Int) := by omega
        rw [e3]
        by_cases h3 : n * 10 ≤ 9223372036854775807
        · rw [if_pos (by omega : (n : Int) * 10 ≤ 9223372036854775807)]
          refine ev_eq (add_nn (by omega) (by omega) (by omega) (by omega)) (ev_pos rfl ?_)
          by_cases h4 : n * 10 + (x - 48) ≤ 9223372036854775807
          · rw [if_pos (by omega : (n : Int) * 10 + ((x - 48 : Nat) : Int) ≤ 9223372036854775807), if_pos ⟨by omega, by omega, h4⟩]
            refine ev_pos rfl ?_
            have := ih (i + 1) (n * 10 + (x - 48)) (by omega) h4
            have e5 : wrap64 ((i : Int) + 1) = ((i + 1 : Nat) : Int) := by rw [w64] <;> omega
            have e6 : (n : Int) * 10 + ((x - 48 : Nat) : Int) = ((n * 10 + (x - 48) : Nat) : Int) := by omega
            simp only [e5, e6]
            exact this
          · rw [if_neg (by omega : ¬ (n : Int) * 10 + ((x - 48 : Nat) : Int) ≤ 9223372036854775807), if_neg (by omega)]
            exact ev_neg (by decide) (ev_now _)
        · rw [if_neg (by omega : ¬ (n : Int) * 10 ≤ 9223372036854775807), if_neg (by omega)]
          exact ev_eq (add_nn (by omega) (by omega) (by omega) (by omega)) (ev_neg (by decide) (ev_now _))
theorem number_is (s : List UInt8) (hs : s.length ≤ 1000000) : Ev (fun k => digits_number.f k (mkS s)) (numAns (numOf s 0) (!s.isEmpty)) := by
  unfold digits_number.f
  rw [mkS_size]
  have := number_loop s hs s.length 0 0 (by omega) (by omega)
  rw [List.drop_zero] at this
  exact this
theorem numOf_bound : ∀ (l : List UInt8) (n m : Nat), n ≤ 9223372036854775807 → numOf l n = some m → m ≤ 9223372036854775807
  | [], n, m, hn, h => by
    obtain rfl := Option.some.inj h
    exact hn
  | b :: l, n, m, hn, h => by
    unfold numOf at h
    split at h
    · rename_i hc
      exact numOf_bound l _ m hc.2.2 h
    · cases h
theorem numOf_small : ∀ (l : List UInt8) (n m : Nat), numOf l n = some m → m < (n + 1) * 10 ^ l.length
  | [], n, m, h => by
    obtain rfl := Option.some.inj h
    simp
  | b :: l, n, m, h => by
    unfold numOf at h
    split at h
    · rename_i hc
      have := numOf_small l _ m h
      refine Nat.lt_of_lt_of_le this ?_
      rw [List.length_cons, Nat.pow_succ, Nat.mul_comm (10 ^ l.length) 10, ← Nat.mul_assoc]
      exact Nat.mul_le_mul_right _ (by omega)
    · cases h
theorem put_ends (x y : Int) (hx : 0 ≤ x) (hx1 : x ≤ 9223372036854775807) (hy : 0 ≤ y) (hy1 : y ≤ 9223372036854775807) (m : Bool) :
    ∃ r : Int × Bool, Ev (fun k => digits_put.f k x y m) r ∧ -9223372036854775807 ≤ r.1 ∧ r.1 ≤ 9223372036854775807 ∧ (m = false → x * 10000 + y ≤ 9223372036854775807 → r = (x * 10000 + y, true)) := by
  unfold digits_put.f dec_Of.f
  have hs := scaled_one x 10000 hx hx1 (by omega) (by omega)
  have bad : ∀ z : Int, Ev (fun k => digits_put.j0 k m z true) (0, false) := fun z => ev_succ (fun k => digits_put.j0.eq_2 ..) (ev_pos rfl (ev_now _))
  by_cases h : x * 10000 ≤ 9223372036854775807
  · rw [if_pos h] at hs
    by_cases h2 : x * 10000 + y ≤ 9223372036854775807
    · cases m with
      | false =>
        refine ⟨(x * 10000 + y, true), ?_, by simp only; omega, by simp only; omega, fun _ _ => rfl⟩
        refine ev_bind (ev_bind hs (ev_now _)) (ev_eq (add_nn (by omega) (by omega) hy hy1) (ev_pos rfl ?_))
        rw [if_pos h2]
        exact ev_succ (fun k => digits_put.j0.eq_2 ..) (ev_neg (by simp) (ev_neg (by decide) (ev_now _)))
      | true =>
        refine ⟨(wrap64 (-(x * 10000 + y)), true), ?_, by simp only; rw [w64] <;> omega, by simp only; rw [w64] <;> omega, fun hm => by cases hm⟩
        refine ev_bind (ev_bind hs (ev_now _)) (ev_eq (add_nn (by omega) (by omega) hy hy1) (ev_pos rfl ?_))
        rw [if_pos h2]
        refine ev_succ (fun k => digits_put.j0.eq_2 ..) (ev_neg (by simp) (ev_pos rfl (ev_eq (a := (wrap64 (-(x * 10000 + y)), true)) ?_ (ev_now _))))
        unfold dec_Neg.f
        rw [may_nn (by omega)]
        rfl
    · refine ⟨(0, false), ?_, by simp, by simp, fun _ hh => absurd hh h2⟩
      refine ev_bind (ev_bind hs (ev_now _)) (ev_eq (add_nn (by omega) (by omega) hy hy1) (ev_pos rfl ?_))
      rw [if_neg h2]
      exact bad _
  · rw [if_neg h] at hs
    refine ⟨(0, false), ?_, by simp, by simp, fun _ hh => absurd hh (by omega)⟩
    exact ev_bind (ev_bind hs (ev_now _)) (ev_eq (add_nn (by omega) (by omega) hy hy1) (ev_neg (by decide) (bad _)))
theorem read_loop (m : Bool) (x : Int) (r : Int × Bool) (T : Int) (hT : T ≤ 4) (d : Nat) : ∀ (y i : Int), 0 ≤ i → i + d = T → 0 ≤ y → y * 10 ^ d ≤ 9223372036854775807 →
    Ev (fun k => digits_put.f k x (y * 10 ^ d) m) r → Ev (fun k => digits_Read.l0 k m x y T i) r := by
  induction d with
  | zero =>
    intro y i hi hd hy _ h
    refine ev_succ (fun k => digits_Read.l0.eq_2 ..) (ev_neg (by omega) ?_)
    rw [Int.pow_zero, Int.mul_one] at h
    exact ev_bind h (ev_now _)
  | succ d ih =>
    intro y i hi hd hy hb h
    refine ev_succ (fun k => digits_Read.l0.eq_2 ..) (ev_pos (by omega) ?_)
    have e0 : y * 10 ^ (d + 1) = y * 10 * 10 ^ d := by rw [Int.pow_succ, Int.mul_comm (10 ^ d) 10, Int.mul_assoc]
    have hp : (1 : Int) ≤ 10 ^ d := by
      have : (0 : Int) < 10 ^ d := Int.pow_pos (by omega)
      omega
    have hy10 : y * 10 ≤ 9223372036854775807 := by
      have : y * 10 * 1 ≤ y * 10 * 10 ^ d := Int.mul_le_mul_of_nonneg_left hp (by omega)
      omega
    rw [w64 (by omega) hy10, w64 (by omega) (by omega)]
    rw [e0] at h hb
    exact ih (y * 10) (i + 1) (by omega) (by omega) (by omega) hb h
theorem cut_len (s sep : List UInt8) : (Lib.cut s sep).1.length ≤ s.length ∧ (Lib.cut s sep).2.1.length ≤ s.length := by
  unfold Lib.cut
  split
  · simp
    omega
  · simp
theorem trim_len (s p : List UInt8) : (Lib.trimPrefix s p).length ≤ s.length := by
  unfold Lib.trimPrefix
  split <;> simp
theorem read_ends (s : List UInt8) (hs : s.length ≤ 1000000) : ∃ r : Int × Bool, Ev (fun k => digits_Read.f k (mkS s)) r ∧ -9223372036854775807 ≤ r.1 ∧ r.1 ≤ 9223372036854775807 := by
  unfold digits_Read.f strings_CutPrefix.f
  simp only [Option.bind_some, mkS_size]
  by_cases h40 : (s.length : Int) > 40
  · exact ⟨(0, false), ev_pos h40 (ev_now _), by simp, by simp⟩
  · generalize hm : Lib.hasPrefix (mkS s).data.toList (⟨#[45]⟩ : ByteArray).data.toList = m
    have ht : (Lib.trimPrefix (mkS s).data.toList (⟨#[45]⟩ : ByteArray).data.toList).length ≤ s.length := trim_len _ _
    generalize Lib.trimPrefix (mkS s).data.toList (⟨#[45]⟩ : ByteArray).data.toList = u at ht
    have hc : (Lib.cut u [46]).1.length ≤ u.length ∧ (Lib.cut u [46]).2.1.length ≤ u.length := cut_len u [46]
    have ec : strings_Cut.f (mkS u) (⟨#[46]⟩ : ByteArray) = some (mkS (Lib.cut u [46]).1, mkS (Lib.cut u [46]).2.1, (Lib.cut u [46]).2.2) := by
      unfold strings_Cut.f
      rw [if_pos (by rw [mkS_size]; omega)]
      rfl
    have hc1 : (Lib.cut u [46]).1.length ≤ u.length := hc.1
    have hc2 : (Lib.cut u [46]).2.1.length ≤ u.length := hc.2
    have hq : (Lib.cut u [46]).2.2 = false → (Lib.cut u [46]).2.1.length ≤ 4 := by
      unfold Lib.cut
      split
      · intro hh; cases hh
      · intro _; simp
    generalize (Lib.cut u [46]).1 = a at *
    generalize (Lib.cut u [46]).2.1 = b at *
    generalize (Lib.cut u [46]).2.2 = q at *
    have na := number_is a (by omega)
    have nb := number_is b (by omega)
    have ra : 0 ≤ (numAns (numOf a 0) (!a.isEmpty)).1 ∧ (numAns (numOf a 0) (!a.isEmpty)).1 ≤ 9223372036854775807 := by
      cases e : numOf a 0 with
      | none => simp [numAns]
      | some n =>
        have := numOf_bound a 0 n (by omega) e
        simp [numAns]
        omega
    have rb : 0 ≤ (numAns (numOf b 0) (!b.isEmpty)).1 ∧ (numAns (numOf b 0) (!b.isEmpty)).1 < 10 ^ b.length := by
      cases e : numOf b 0 with
      | none =>
        simp only [numAns]
        exact ⟨Int.le_refl _, Int.pow_pos (by omega)⟩
      | some n =>
        have := numOf_small b 0 n e
        simp only [numAns]
        refine ⟨by omega, ?_⟩
        have h2 : (n : Int) < ((10 ^ b.length : Nat) : Int) := by omega
        rwa [Int.natCast_pow] at h2
    have bad : ∀ (y : Int), Ev (fun k => digits_Read.j0 k m (mkS b) (numAns (numOf a 0) (!a.isEmpty)).1 y true) (0, false) := fun y => ev_succ (fun k => digits_Read.j0.eq_2 ..) (ev_pos rfl (ev_now _))
    have good : b.length ≤ 4 → ∃ r : Int × Bool, Ev (fun k => digits_Read.j0 k m (mkS b) (numAns (numOf a 0) (!a.isEmpty)).1 (numAns (numOf b 0) (!b.isEmpty)).1 false) r ∧ -9223372036854775807 ≤ r.1 ∧ r.1 ≤ 9223372036854775807 := by
      intro hb
      have hpw : (10 : Int) ^ b.length * 10 ^ (4 - b.length) = 10000 := by
        rw [← Int.pow_add, Nat.add_sub_cancel' hb]
        rfl
      have hp : (0 : Int) < 10 ^ (4 - b.length) := Int.pow_pos (by omega)
      have hy : (numAns (numOf b 0) (!b.isEmpty)).1 * 10 ^ (4 - b.length) ≤ 10000 := by
        rw [← hpw]
        exact Int.mul_le_mul_of_nonneg_right (by omega) (by omega)
      have hy0 : 0 ≤ (numAns (numOf b 0) (!b.isEmpty)).1 * 10 ^ (4 - b.length) := Int.mul_nonneg rb.1 (by omega)
      obtain ⟨r, h1, h2, h3, _⟩ := put_ends _ _ ra.1 ra.2 hy0 (by omega) m
      refine ⟨r, ev_succ (fun k => digits_Read.j0.eq_2 ..) (ev_neg (by decide) ?_), h2, h3⟩
      rw [mkS_size, w64 (by omega) (by omega)]
      exact read_loop m _ r _ (by omega) (4 - b.length) _ 0 (by omega) (by omega) rb.1 (by omega) h1
    have bad' : ∀ (y : Int) (c : Bool), c = true → ∃ r : Int × Bool, Ev (fun k => digits_Read.j0 k m (mkS b) (numAns (numOf a 0) (!a.isEmpty)).1 y c) r ∧ -9223372036854775807 ≤ r.1 ∧ r.1 ≤ 9223372036854775807 := fun y c hc => by
      subst hc
      exact ⟨_, bad y, by simp, by simp⟩
    by_cases xa : (numAns (numOf a 0) (!a.isEmpty)).2 = true
    · by_cases xq : q = true
      · by_cases xb : (numAns (numOf b 0) (!b.isEmpty)).2 = true
        · by_cases hb : b.length ≤ 4
          · obtain ⟨r, h1, h2⟩ := good hb
            refine ⟨r, ev_neg h40 (ev_eq ec (ev_bind na (ev_bind nb (ev_pos xa (ev_pos xq (ev_pos xb ?_)))))), h2⟩
            rw [show decide (((mkS b).size : Int) > 4) = false from decide_eq_false (by rw [mkS_size]; omega)]
            exact h1
          · refine ⟨(0, false), ev_neg h40 (ev_eq ec (ev_bind na (ev_bind nb (ev_pos xa (ev_pos xq (ev_pos xb ?_)))))), by simp, by simp⟩
            rw [show decide (((mkS b).size : Int) > 4) = true from decide_eq_true (by rw [mkS_size]; omega)]
            exact bad _
        · exact ⟨(0, false), ev_neg h40 (ev_eq ec (ev_bind na (ev_bind nb (ev_pos xa (ev_pos xq (ev_neg xb (bad _))))))), by simp, by simp⟩
      · by_cases hb : b.length ≤ 4
        · obtain ⟨r, h1, h2⟩ := good hb
          exact ⟨r, ev_neg h40 (ev_eq ec (ev_bind na (ev_bind nb (ev_pos xa (ev_neg xq h1))))), h2⟩
        · exact absurd (hq (by simpa using xq)) hb
    · exact ⟨(0, false), ev_neg h40 (ev_eq ec (ev_bind na (ev_bind nb (ev_neg xa (bad _))))), by simp, by simp⟩
theorem parse_ends (s : List UInt8) (hs : s.length ≤ 1000000) : ∃ r : Int × Bool, Ev (fun k => digits_Parse.f k (mkS s)) r ∧ -9223372036854775807 ≤ r.1 ∧ r.1 ≤ 9223372036854775807 ∧ (r.2 = true → decText r.1 = s) ∧ (r.2 = false → r.1 = 0) := by
  obtain ⟨r, h1, h2, h3⟩ := read_ends s hs
  unfold digits_Parse.f
  by_cases ho : r.2 = true
  · have ht := digits_text r.1 (by omega) h3
    by_cases he : decText r.1 = s
    · refine ⟨(r.1, true), ev_bind h1 (ev_pos ho (ev_bind ht (ev_pos (by rw [mkS_toList, mkS_toList]; exact he) (ev_now _)))), h2, h3, (fun _ => he), (fun h => by cases h)⟩
    · refine ⟨(0, false), ev_bind h1 (ev_pos ho (ev_bind ht (ev_neg (by rw [mkS_toList, mkS_toList]; exact he) (ev_now _)))), by simp, by simp, (fun h => by cases h), fun _ => rfl⟩
  · exact ⟨(0, false), ev_bind h1 (ev_neg ho (ev_now _)), by simp, by simp, (fun h => by cases h), fun _ => rfl⟩
theorem dig_nat : ∀ m : Nat, m < 10 → (dig m).toNat = 48 + m := by decide
theorem numOf_append : ∀ (l1 l2 : List UInt8) (n : Nat), numOf (l1 ++ l2) n = (numOf l1 n).bind (numOf l2)
  | [], l2, n => rfl
  | b :: l, l2, n => by
    rw [List.cons_append]
    unfold numOf
    split
    · exact numOf_append l l2 _
    · rfl
theorem numOf_one (m n : Nat) (hm : m < 10) (hn : n * 10 + m ≤ 9223372036854775807) : numOf [dig m] n = some (n * 10 + m) := by
  have := dig_nat m hm
  unfold numOf
  rw [if_pos ⟨by omega, by omega, by omega⟩, this, show 48 + m - 48 = m by omega]
  rfl
theorem numOf_dec (n : Nat) (h : n ≤ 9223372036854775807) : numOf (Lib.decDigits n) 0 = some n := by
  induction n using Nat.strongRecOn with
  | _ n ih =>
    by_cases hs : n < 10
    · rw [dec_small n hs, numOf_one n 0 hs (by omega)]
      simp
    · rw [dec_big n hs, numOf_append, ih (n / 10) (by omega) (by omega), Option.bind_some, numOf_one (n % 10) (n / 10) (by omega) (by omega)]
      congr 1
      omega
theorem dec_bytes (n : Nat) : ∀ b ∈ Lib.decDigits n, 48 ≤ b.toNat ∧ b.toNat ≤ 57 := by
  induction n using Nat.strongRecOn with
  | _ n ih =>
    intro b hb
    by_cases hs : n < 10
    · rw [dec_small n hs, List.mem_singleton] at hb
      subst hb
      have := dig_nat n hs
      omega
    · rw [dec_big n hs] at hb
      rcases List.mem_append.1 hb with hb | hb
      · exact ih (n / 10) (by omega) b hb
      · rw [List.mem_singleton] at hb
        subst hb
        have := dig_nat (n % 10) (by omega)
        omega
theorem index_no (c : UInt8) : ∀ s : List UInt8, (∀ b ∈ s, b ≠ c) → Lib.index s [c] = -1
  | [], _ => rfl
  | b :: l, h => by
    have hb : (c == b) = false := beq_eq_false_iff_ne.mpr (fun e => h b (by simp) e.symm)
    unfold Lib.index
    rw [index_no c l (fun x hx => h x (by simp [hx]))]
    simp [List.isPrefixOf, hb]
theorem read_dec (n : Nat) (h : n ≤ 1000000000) : Ev (fun k => digits_Read.f k (mkS (Lib.decDigits n))) ((n : Int) * 10000, true) := by
  have hl := dec_len20 n (by omega)
  have hlp := dec_pos n
  have hB := dec_bytes n
  have hN := numOf_dec n (by omega)
  generalize Lib.decDigits n = s at *
  have hp : Lib.hasPrefix s [45] = false := by
    cases s with
    | nil => rfl
    | cons b l =>
      have h1 := hB b (by simp)
      have : ((45 : UInt8) == b) = false := beq_eq_false_iff_ne.mpr (fun e => by subst e; revert h1; decide)
      simp [Lib.hasPrefix, List.isPrefixOf, this]
  have ht : Lib.trimPrefix s [45] = s := by
    unfold Lib.trimPrefix
    rw [hp]
    rfl
  have hc : Lib.cut s [46] = (s, [], false) := by
    unfold Lib.cut
    rw [index_no 46 s (fun b hb e => by have := hB b hb; subst e; revert this; decide), if_neg (by decide)]
  have ecp : strings_CutPrefix.f (mkS s) (⟨#[45]⟩ : ByteArray) = some (mkS s, false) := by
    show some (mkS (Lib.trimPrefix s [45]), Lib.hasPrefix s [45]) = _
    rw [ht, hp]
  have ec : strings_Cut.f (mkS s) (⟨#[46]⟩ : ByteArray) = some (mkS s, mkS [], false) := by
    unfold strings_Cut.f
    rw [if_pos (by rw [mkS_size]; omega)]
    show some (mkS (Lib.cut s [46]).1, mkS (Lib.cut s [46]).2.1, (Lib.cut s [46]).2.2) = _
    rw [hc]
  have hne : (!s.isEmpty) = true := by
    cases s with
    | nil => simp at hlp
    | cons b l => rfl
  have na := number_is s (by omega)
  have nb := number_is [] (by simp)
  rw [hN, hne] at na
  unfold digits_Read.f
  refine ev_eq ecp (ev_neg (by rw [mkS_size]; omega) (ev_eq ec (ev_bind na (ev_bind nb (ev_pos rfl (ev_neg (by simp) ?_))))))
  refine ev_succ (fun k => digits_Read.j0.eq_2 ..) (ev_neg (by decide) ?_)
  obtain ⟨r, h1, _, _, h4⟩ := put_ends (n : Int) 0 (by omega) (by omega) (by omega) (by omega) false
  have hr := h4 rfl (by omega)
  rw [Int.add_zero] at hr
  rw [hr] at h1
  have eT : wrap64 (4 - ((mkS []).size : Int)) = 4 := by rw [mkS_size, w64] <;> simp
  simp only [eT]
  exact read_loop false (n : Int) _ 4 (by omega) 4 0 0 (by omega) (by omega) (by omega) (by omega) h1
theorem parse_dec (n : Nat) (h : n ≤ 1000000000) : Ev (fun k => digits_Parse.f k (mkS (Lib.decDigits n))) ((n : Int) * 10000, true) := by
  unfold digits_Parse.f
  have ht := digits_text ((n : Int) * 10000) (by omega) (by omega)
  have e : decText ((n : Int) * 10000) = Lib.decDigits n := by
    unfold decText
    rw [if_neg (by omega), if_neg (by omega), if_pos (by omega), List.nil_append, List.append_nil]
    congr 1
    omega
  rw [e] at ht
  exact ev_bind (read_dec n h) (ev_pos rfl (ev_bind ht (ev_pos rfl (ev_now _))))
end Go.Proofs.YtaljjdodjimgdaaGreatDoor.P
namespace Go.Proofs.YtaljjdodjimgdaaGreatDoor.P
open Go.RowKit Go.Proofs.YtaljjdodjimgdaaGreatDoorW.PrintWords Go.Proofs.YtaljjdodjimgdaaGreatDoorW.PrintLast Go.Proofs.YtaljjdodjimgdaaGreatDoorW.PrintMore
def pairs (first : Bool) : List (List UInt8) → List Int → List UInt8
 | w :: ws, n :: ns => (if first then [] else [32]) ++ w ++ [32] ++ Lib.decDigits n.toNat ++ pairs false ws ns
 | _, _ => []
def inCount (n : Int) : Prop := 0 ≤ n ∧ n ≤ 1000000000
instance (n : Int) : Decidable (inCount n) := by unfold inCount; infer_instance
theorem w64_ {n : Int} (h0 : -9223372036854775808 ≤ n) (h1 : n ≤ 9223372036854775807) : wrap64 n = n := by
 unfold wrap64
 omega
theorem two_row (w : World) (x y : ByteArray) : ReadsRow (Kd.string.K (w.alloc (.cells #[.string x, .string y] 9))) 1 (w.alloc (.cells #[.string x, .string y] 9)) (some ⟨w.heap.size, 0, none⟩) 2 [x, y] := by
 have hb := (MapKept.heap_alloc w (.cells #[.string x, .string y] 9)).1
 refine ⟨rfl, by omega, fun _ => ⟨_, rfl, fun j p hj => ?_⟩⟩
 match j, hj with
 | 0, hj =>
  obtain rfl := Option.some.inj hj
  refine ⟨[.string x], rfl, rfl, fun i u hu => ?_⟩
  match i, hu with
  | 0, hu => exact (blk_cell hb 0).trans hu
 | 1, hj =>
  obtain rfl := Option.some.inj hj
  refine ⟨[.string y], rfl, rfl, fun i u hu => ?_⟩
  match i, hu with
  | 0, hu => exact (blk_cell hb 1).trans hu
theorem gen_world {P : Program} {c : Code} {Q : Exit → Act → World → Prop} {a : Act} {W : World} (F : World → Prop) (hF : F W) (h : ∀ W2, F W2 → Code.wp P c Q a W2) : Code.wp P c Q a W := h W hF
theorem count_digits (n : Int) (h : inCount n) : ∃ k, digits_Text.f k (n * 10000) = some (mkS (Lib.decDigits n.toNat)) := by
 obtain ⟨h0, h1⟩ := h
 have e : decText (n * 10000) = Lib.decDigits n.toNat := by
  unfold decText
  rw [if_neg (by omega), if_neg (by omega), if_pos (by omega), List.nil_append, List.append_nil]
  congr 1
  omega
 rw [← e]
 obtain ⟨K, hK⟩ := digits_text (n * 10000) (by omega) (by omega)
 exact ⟨K, hK K (Nat.le_refl K)⟩
end Go.Proofs.YtaljjdodjimgdaaGreatDoor.P
namespace Go.Proofs.YtaljjdodjimgdaaGreatDoor.P
open Go.RowKit Go.Proofs.YtaljjdodjimgdaaGreatDoorW.PrintWords Go.Proofs.YtaljjdodjimgdaaGreatDoorW.PrintLast Go.Proofs.YtaljjdodjimgdaaGreatDoorW.PrintMore
def meterLine : ByteArray := ⟨#[101, 118, 97, 108, 115, 32, 114, 101, 97, 100, 115, 32, 99, 104, 97, 115, 101, 115, 32, 101, 100, 103, 101, 115, 32, 118, 105, 115, 105, 116, 115]⟩
def meterW : List (List UInt8) := [[101, 118, 97, 108, 115], [114, 101, 97, 100, 115], [99, 104, 97, 115, 101, 115], [101, 100, 103, 101, 115], [118, 105, 115, 105, 116, 115]]
def meterCells : Array Value := #[.string ⟨#[101, 118, 97, 108, 115]⟩, .string ⟨#[114, 101, 97, 100, 115]⟩, .string ⟨#[99, 104, 97, 115, 101, 115]⟩, .string ⟨#[101, 100, 103, 101, 115]⟩, .string ⟨#[118, 105, 115, 105, 116, 115]⟩]
theorem meter_fields : Lib.fields meterLine.data.toList = meterW := by kernel_rfl
theorem meter_fields_call (w : World) (hG : GInv2 w) : Calls Tryz.prog 39 #[.string meterLine] w fun e w' => ∃ g, e = .returned (.slice (some ⟨g, 0, none⟩) 5 5) ∧ w.heap.size ≤ g ∧ w'.heap[g]? = some (.cells meterCells 9 (0, 0)) ∧ Below w.heap.size w w' := by
  refine (Tryz.strings_Fields meterLine w (by decide) (fun j b hb => ?_) hG.space).mono ?_
  · have hall : (meterLine.data.toList.all fun b => decide (b.toNat < 128)) = true := by kernel_rfl
    exact of_decide_eq_true (List.all_eq_true.1 hall b (List.mem_of_getElem? hb))
  · rintro e w' ⟨rfl, rfl⟩
    rw [meter_fields]
    exact ⟨w.heap.size, rfl, Nat.le_refl _, (MapKept.heap_alloc w _).1, below_alloc (Below.refl _ _) _⟩
set_option maxRecDepth 100000 in
set_option maxHeartbeats 4000000 in
theorem meter_counts_call (a b c d e0 : Int) (w : World) : Calls Tryz.prog 38 #[.agg #[.int .i64 a, .int .i64 b, .int .i64 c, .int .i64 d, .int .i64 e0]] w fun e w' => e = .returned (.agg #[.int .i64 a, .int .i64 b, .int .i64 c, .int .i64 d, .int .i64 e0]) ∧ Below w.heap.size w w' := by
  go_enter Tryz.func38, Tryz.ntmps38
  go_wp2
  refine bodyPost_ret (results_cell_row rfl _ _ (w.heap.size + 1) 66 #[.int .i64 a, .int .i64 b, .int .i64 c, .int .i64 d, .int .i64 e0] (0, 0) _ rfl ?hg Tryz.underlying66 rfl (by kernel_rfl)) rfl ?_
  case hg => exact (congrArg (fun n => (World.alloc (w.alloc (Obj.cells #[.int .i64 a, .int .i64 b, .int .i64 c, .int .i64 d, .int .i64 e0] 23)) _).heap[n]?) (show w.heap.size + 1 = (w.alloc (Obj.cells #[.int .i64 a, .int .i64 b, .int .i64 c, .int .i64 d, .int .i64 e0] 23)).heap.size from (Array.size_push _).symm)).trans (MapKept.heap_alloc _ _).1
  exact ⟨rfl, below_alloc (below_alloc (Below.refl _ _) _) _⟩
def meterFull (l : List Int) : List ByteArray := (meterW.zip l).flatMap fun x => [⟨x.1.toArray⟩, mkS (Lib.decDigits x.2.toNat)]
def meterText (l : List Int) : ByteArray := if ∀ n ∈ l, inCount n then mkS (pairs true meterW l) else ⟨#[]⟩
set_option maxRecDepth 100000 in
set_option maxHeartbeats 4000000 in
theorem meter_walk (a b c d e0 : Int) (w : World) (hG : GInv2 w) (r : ByteArray) (hall : (∀ n ∈ [a, b, c, d, e0], inCount n) → strings_Join.f (meterFull [a, b, c, d, e0]) ⟨#[32]⟩ = some r) (hnone : ¬ (∀ n ∈ [a, b, c, d, e0], inCount n) → r = ⟨#[]⟩) :
    Calls Tryz.prog 25 #[.agg #[.int .i64 a, .int .i64 b, .int .i64 c, .int .i64 d, .int .i64 e0]] w fun e w' => e = .returned (.string r) ∧ Below w.heap.size w w' := by
  have hu23 := Tryz.underlying23
  have hu66 := Tryz.underlying66
  have HG := Aside0.mk hG
  have HALL := Aside0.mk hall
  have HNONE := Aside0.mk hnone
  clear hG hall hnone
  have HB := Aside0.mk (Below.refl w.heap.size w)
  go_enter Tryz.func25, Tryz.ntmps25
  go_wp2_with (first
    | (go_at_call 38; (with_reducible refine (meter_counts_call a b c d e0 _).mono ?_); rintro e w1 ⟨rfl, hb⟩; have n0_ := Aside0.mk (below_step (by repeat (first | (with_reducible first | exact HB.out | apply below_alloc | apply pw_below_drewN | apply below_drew1) | exact HB.out)) hb); clear HB; have HB := n0_; clear n0_ hb)
    | (go_at_call 39; refine (meter_fields_call _ (GInv2.below HG.out (by repeat (first | (with_reducible first | exact HB.out | apply below_alloc | apply pw_below_drewN | apply below_drew1) | exact HB.out)))).mono ?_; rintro e w2 ⟨gF, rfl, hgF, hbF, hb⟩; have BN := Aside0.mk (blk_below ((MapKept.heap_alloc w1 _).1) hb); have BF := Aside0.mk hbF; have n0_ := Aside0.mk (below_step (by repeat (first | (with_reducible first | exact HB.out | apply below_alloc | apply pw_below_drewN | apply below_drew1) | exact HB.out)) hb); clear HB; have HB := n0_; clear n0_ hb hbF hgF))
  refine gen_world (fun W2 => (Below w.heap.size w W2 ∧ W2.heap[w1.heap.size]? = some (.cells #[.int .i64 a, .int .i64 b, .int .i64 c, .int .i64 d, .int .i64 e0] 66 (0, 0)) ∧ W2.heap[gF]? = some (.cells meterCells 9 (0, 0)))) ⟨(by repeat (first | (with_reducible first | exact HB.out | apply below_alloc | apply pw_below_drewN | apply below_drew1) | exact HB.out)), (by with_reducible repeat (first | refine blk_drewN ?_ _ | refine blk_drew ?_ | refine blk_alloc ?_ _ | exact BN.out)), (by with_reducible repeat (first | refine blk_drewN ?_ _ | refine blk_drew ?_ | refine blk_alloc ?_ _ | exact BF.out))⟩ ?_
  clear HB BN BF
  rintro W2 ⟨h1, h2, h3⟩
  have HBO := Aside0.mk h1
  have BN := Aside0.mk h2
  have BF := Aside0.mk h3
  clear h1 h2 h3
  have HB := Aside0.mk (Below.refl W2.heap.size W2)
  go_loopg [3, 11] 5 (fun kq v3 v11 w' => ∃ i : Nat, v11 = .int .i64 (i : Int) ∧ Aside0 (i + kq = 5) ∧ Aside0 (∀ n ∈ ([a, b, c, d, e0]).take i, inCount n) ∧ Aside0 (Kd.R Kd.string 9 w' W2.heap.size (fun _ => True) v3 ((meterFull [a, b, c, d, e0]).take (2 * i))) ∧ Aside0 (Below W2.heap.size W2 w'))
  case atStart => exact ⟨0, rfl, ⟨rfl⟩, ⟨fun n hn => by cases hn⟩, ⟨Kd.R_nil _ _ _ _ _⟩, ⟨(by repeat (first | (with_reducible first | exact HB.out | apply below_alloc | apply pw_below_drewN | apply below_drew1) | exact HB.out))⟩⟩
  case round =>
    obtain ⟨i, rfl, hi, HI, HO, HB⟩ := hrel
    have BNr : wr.heap[w1.heap.size]? = some (.cells #[.int .i64 a, .int .i64 b, .int .i64 c, .int .i64 d, .int .i64 e0] 66 (0, 0)) := (HB.out.block _ (blk_lt BN.out)).trans BN.out
    have BFr : wr.heap[gF]? = some (.cells meterCells 9 (0, 0)) := (HB.out.block _ (blk_lt BF.out)).trans BF.out
    have BNR := Aside0.mk BNr
    have BFR := Aside0.mk BFr
    clear BNr BFr
    have hi0 := hi.out
    rcases (show i = 0 ∨ i = 1 ∨ i = 2 ∨ i = 3 ∨ i = 4 ∨ i = 5 by omega) with rfl | rfl | rfl | rfl | rfl | rfl
    · by_cases hin : inCount a
      · have HIN := Aside0.mk hin
        obtain ⟨k0, hk0⟩ := count_digits a hin
        have D0 := Aside0.mk hk0
        clear hk0
        have hn : wr.cell? ⟨w1.heap.size, 0, none⟩ = some (.int .i64 a) := (blk_cell BNR.out 0).trans rfl
        have hF : wr.cell? ⟨gF, 0, none⟩ = some (.string (⟨#[101, 118, 97, 108, 115]⟩ : ByteArray)) := (blk_cell BFR.out 0).trans rfl
        have q0 : decide (a < 0) = false := decide_eq_false (by have := hin.1; omega)
        have q1 : decide (a > 1000000000) = false := decide_eq_false (by have := hin.2; omega)
        have q2 : decide (1000000000 < a) = false := q1
        have q3 : wrap64 (a * 10000) = a * 10000 := w64_ (by have := hin.1; omega) (by have := hin.2; omega)
        clear hin
        go_wp2_with (first
          | (go_at_call 33; (with_reducible refine (digits_Text.calls k0 (a * 10000) _ _ (GInv2.below HG.out (below_step HBO.out (by repeat (first | (with_reducible first | exact HB.out | apply below_alloc | apply pw_below_drewN | apply below_drew1) | exact HB.out)))).one D0.out).mono ?_); rintro e w5 ⟨rfl, hb⟩; have n1_ := Aside0.mk (Kd.R_below (by (with_reducible repeat (first | apply Kd.R_alloc | apply Kd.R_drewN | apply Kd.R_drew)); exact HO.out) hb); have n0_ := Aside0.mk (below_step (by repeat (first | (with_reducible first | exact HB.out | apply below_alloc | apply pw_below_drewN | apply below_drew1) | exact HB.out)) hb); clear HB HO; have HB := n0_; have HO := n1_; clear n0_ n1_ hb)
          | ((with_reducible refine gate_builtin (b := .append) (xs := #[.tmp 26, .tmp 33]) rfl ?_); at_builtin; refine Kd.R_append_rows Kd.string (Rr := Kd.string.K (w5.alloc _)) (w0 := W2) W2.heap.size rfl (.tmp 26) (.tmp 33) 60 9 (.string ⟨#[]⟩) 16 rfl Tryz.underlying60 info9 rfl (by decide) (by omega) u3 ((meterFull [a, b, c, d, e0]).take (2 * 0)) [(⟨#[101, 118, 97, 108, 115]⟩ : ByteArray), mkS (Lib.decDigits a.toNat)] (some ⟨w5.heap.size, 0, none⟩) 2 2 (fun _ => True) (fun _ => False) rfl rfl ?aO (two_row _ _ _) (fun _ _ h_ => h_) (fun _ hk => hk.elim) (fun _ _ => trivial) ?aB ?aS ?aL ?_; (case aO => exact (by (with_reducible repeat (first | apply Kd.R_alloc | apply Kd.R_drewN | apply Kd.R_drew)); exact HO.out)); (case aB => exact (by repeat (first | (with_reducible first | exact HB.out | apply below_alloc | apply pw_below_drewN | apply below_drew1) | exact HB.out))); (case aS => exact (below_size (by repeat (first | (with_reducible first | exact HB.out | apply below_alloc | apply pw_below_drewN | apply below_drew1) | exact HB.out)))); (case aL => exact Nat.le_of_ble_eq_true rfl); intro v6 w6 ho hb hg hat; have n1_ := Aside0.mk (show Kd.R Kd.string 9 w6 W2.heap.size (fun _ => True) v6 ((meterFull [a, b, c, d, e0]).take (2 * 1)) from ho); have n0_ := Aside0.mk hb; clear HB HO; have HB := n0_; have HO := n1_; clear n0_ n1_ ho hb hg hat))
        go_roundg 4
        case measure => omega
        case rel => exact ⟨1, (by first | rfl | (simp; done)), ⟨by omega⟩, ⟨fun n hn => by
          have h2 : n ∈ ([a, b, c, d, e0]).take 0 ++ [a] := hn
          rcases List.mem_append.1 h2 with h3 | h3
          · exact HI.out n h3
          · rw [List.mem_singleton.1 h3]; exact HIN.out⟩, ⟨by (with_reducible repeat (first | apply Kd.R_alloc | apply Kd.R_drewN | apply Kd.R_drew)); exact HO.out⟩, ⟨(by repeat (first | (with_reducible first | exact HB.out | apply below_alloc | apply pw_below_drewN | apply below_drew1) | exact HB.out))⟩⟩
      · have hr := HNONE.out (fun hh => hin (hh a (by simp)))
        subst hr
        have hn : wr.cell? ⟨w1.heap.size, 0, none⟩ = some (.int .i64 a) := (blk_cell BNR.out 0).trans rfl
        have hF : wr.cell? ⟨gF, 0, none⟩ = some (.string (⟨#[101, 118, 97, 108, 115]⟩ : ByteArray)) := (blk_cell BFR.out 0).trans rfl
        by_cases hneg : a < 0
        · have q0 : decide (a < 0) = true := decide_eq_true hneg
          clear hin
          go_wp2
          go_ret
          exact ⟨rfl, below_step HBO.out (by repeat (first | (with_reducible first | exact HB.out | apply below_alloc | apply pw_below_drewN | apply below_drew1) | exact HB.out))⟩
        · have q0 : decide (a < 0) = false := decide_eq_false hneg
          have q1 : decide (a > 1000000000) = true := decide_eq_true (by unfold inCount at hin; omega)
          have q2 : decide (1000000000 < a) = true := q1
          clear hin
          go_wp2
          go_ret
          exact ⟨rfl, below_step HBO.out (by repeat (first | (with_reducible first | exact HB.out | apply below_alloc | apply pw_below_drewN | apply below_drew1) | exact HB.out))⟩
    · by_cases hin : inCount b
      · have HIN := Aside0.mk hin
        obtain ⟨k0, hk0⟩ := count_digits b hin
        have D0 := Aside0.mk hk0
        clear hk0
        have hn : wr.cell? ⟨w1.heap.size, 1, none⟩ = some (.int .i64 b) := (blk_cell BNR.out 1).trans rfl
        have hF : wr.cell? ⟨gF, 1, none⟩ = some (.string (⟨#[114, 101, 97, 100, 115]⟩ : ByteArray)) := (blk_cell BFR.out 1).trans rfl
        have q0 : decide (b < 0) = false := decide_eq_false (by have := hin.1; omega)
        have q1 : decide (b > 1000000000) = false := decide_eq_false (by have := hin.2; omega)
        have q2 : decide (1000000000 < b) = false := q1
        have q3 : wrap64 (b * 10000) = b * 10000 := w64_ (by have := hin.1; omega) (by have := hin.2; omega)
        clear hin
        go_wp2_with (first
          | (go_at_call 33; (with_reducible refine (digits_Text.calls k0 (b * 10000) _ _ (GInv2.below HG.out (below_step HBO.out (by repeat (first | (with_reducible first | exact HB.out | apply below_alloc | apply pw_below_drewN | apply below_drew1) | exact HB.out)))).one D0.out).mono ?_); rintro e w5 ⟨rfl, hb⟩; have n1_ := Aside0.mk (Kd.R_below (by (with_reducible repeat (first | apply Kd.R_alloc | apply Kd.R_drewN | apply Kd.R_drew)); exact HO.out) hb); have n0_ := Aside0.mk (below_step (by repeat (first | (with_reducible first | exact HB.out | apply below_alloc | apply pw_below_drewN | apply below_drew1) | exact HB.out)) hb); clear HB HO; have HB := n0_; have HO := n1_; clear n0_ n1_ hb)
          | ((with_reducible refine gate_builtin (b := .append) (xs := #[.tmp 26, .tmp 33]) rfl ?_); at_builtin; refine Kd.R_append_rows Kd.string (Rr := Kd.string.K (w5.alloc _)) (w0 := W2) W2.heap.size rfl (.tmp 26) (.tmp 33) 60 9 (.string ⟨#[]⟩) 16 rfl Tryz.underlying60 info9 rfl (by decide) (by omega) u3 ((meterFull [a, b, c, d, e0]).take (2 * 1)) [(⟨#[114, 101, 97, 100, 115]⟩ : ByteArray), mkS (Lib.decDigits b.toNat)] (some ⟨w5.heap.size, 0, none⟩) 2 2 (fun _ => True) (fun _ => False) rfl rfl ?aO (two_row _ _ _) (fun _ _ h_ => h_) (fun _ hk => hk.elim) (fun _ _ => trivial) ?aB ?aS ?aL ?_; (case aO => exact (by (with_reducible repeat (first | apply Kd.R_alloc | apply Kd.R_drewN | apply Kd.R_drew)); exact HO.out)); (case aB => exact (by repeat (first | (with_reducible first | exact HB.out | apply below_alloc | apply pw_below_drewN | apply below_drew1) | exact HB.out))); (case aS => exact (below_size (by repeat (first | (with_reducible first | exact HB.out | apply below_alloc | apply pw_below_drewN | apply below_drew1) | exact HB.out)))); (case aL => exact Nat.le_of_ble_eq_true rfl); intro v6 w6 ho hb hg hat; have n1_ := Aside0.mk (show Kd.R Kd.string 9 w6 W2.heap.size (fun _ => True) v6 ((meterFull [a, b, c, d, e0]).take (2 * 2)) from ho); have n0_ := Aside0.mk hb; clear HB HO; have HB := n0_; have HO := n1_; clear n0_ n1_ ho hb hg hat))
        go_roundg 3
        case measure => omega
        case rel => exact ⟨2, (by first | rfl | (simp; done)), ⟨by omega⟩, ⟨fun n hn => by
          have h2 : n ∈ ([a, b, c, d, e0]).take 1 ++ [b] := hn
          rcases List.mem_append.1 h2 with h3 | h3
          · exact HI.out n h3
          · rw [List.mem_singleton.1 h3]; exact HIN.out⟩, ⟨by (with_reducible repeat (first | apply Kd.R_alloc | apply Kd.R_drewN | apply Kd.R_drew)); exact HO.out⟩, ⟨(by repeat (first | (with_reducible first | exact HB.out | apply below_alloc | apply pw_below_drewN | apply below_drew1) | exact HB.out))⟩⟩
      · have hr := HNONE.out (fun hh => hin (hh b (by simp)))
        subst hr
        have hn : wr.cell? ⟨w1.heap.size, 1, none⟩ = some (.int .i64 b) := (blk_cell BNR.out 1).trans rfl
        have hF : wr.cell? ⟨gF, 1, none⟩ = some (.string (⟨#[114, 101, 97, 100, 115]⟩ : ByteArray)) := (blk_cell BFR.out 1).trans rfl
        by_cases hneg : b < 0
        · have q0 : decide (b < 0) = true := decide_eq_true hneg
          clear hin
          go_wp2
          go_ret
          exact ⟨rfl, below_step HBO.out (by repeat (first | (with_reducible first | exact HB.out | apply below_alloc | apply pw_below_drewN | apply below_drew1) | exact HB.out))⟩
        · have q0 : decide (b < 0) = false := decide_eq_false hneg
          have q1 : decide (b > 1000000000) = true := decide_eq_true (by unfold inCount at hin; omega)
          have q2 : decide (1000000000 < b) = true := q1
          clear hin
          go_wp2
          go_ret
          exact ⟨rfl, below_step HBO.out (by repeat (first | (with_reducible first | exact HB.out | apply below_alloc | apply pw_below_drewN | apply below_drew1) | exact HB.out))⟩
    · by_cases hin : inCount c
      · have HIN := Aside0.mk hin
        obtain ⟨k0, hk0⟩ := count_digits c hin
        have D0 := Aside0.mk hk0
        clear hk0
        have hn : wr.cell? ⟨w1.heap.size, 2, none⟩ = some (.int .i64 c) := (blk_cell BNR.out 2).trans rfl
        have hF : wr.cell? ⟨gF, 2, none⟩ = some (.string (⟨#[99, 104, 97, 115, 101, 115]⟩ : ByteArray)) := (blk_cell BFR.out 2).trans rfl
        have q0 : decide (c < 0) = false := decide_eq_false (by have := hin.1; omega)
        have q1 : decide (c > 1000000000) = false := decide_eq_false (by have := hin.2; omega)
        have q2 : decide (1000000000 < c) = false := q1
        have q3 : wrap64 (c * 10000) = c * 10000 := w64_ (by have := hin.1; omega) (by have := hin.2; omega)
        clear hin
        go_wp2_with (first
          | (go_at_call 33; (with_reducible refine (digits_Text.calls k0 (c * 10000) _ _ (GInv2.below HG.out (below_step HBO.out (by repeat (first | (with_reducible first | exact HB.out | apply below_alloc | apply pw_below_drewN | apply below_drew1) | exact HB.out)))).one D0.out).mono ?_); rintro e w5 ⟨rfl, hb⟩; have n1_ := Aside0.mk (Kd.R_below (by (with_reducible repeat (first | apply Kd.R_alloc | apply Kd.R_drewN | apply Kd.R_drew)); exact HO.out) hb); have n0_ := Aside0.mk (below_step (by repeat (first | (with_reducible first | exact HB.out | apply below_alloc | apply pw_below_drewN | apply below_drew1) | exact HB.out)) hb); clear HB HO; have HB := n0_; have HO := n1_; clear n0_ n1_ hb)
          | ((with_reducible refine gate_builtin (b := .append) (xs := #[.tmp 26, .tmp 33]) rfl ?_); at_builtin; refine Kd.R_append_rows Kd.string (Rr := Kd.string.K (w5.alloc _)) (w0 := W2) W2.heap.size rfl (.tmp 26) (.tmp 33) 60 9 (.string ⟨#[]⟩) 16 rfl Tryz.underlying60 info9 rfl (by decide) (by omega) u3 ((meterFull [a, b, c, d, e0]).take (2 * 2)) [(⟨#[99, 104, 97, 115, 101, 115]⟩ : ByteArray), mkS (Lib.decDigits c.toNat)] (some ⟨w5.heap.size, 0, none⟩) 2 2 (fun _ => True) (fun _ => False) rfl rfl ?aO (two_row _ _ _) (fun _ _ h_ => h_) (fun _ hk => hk.elim) (fun _ _ => trivial) ?aB ?aS ?aL ?_; (case aO => exact (by (with_reducible repeat (first | apply Kd.R_alloc | apply Kd.R_drewN | apply Kd.R_drew)); exact HO.out)); (case aB => exact (by repeat (first | (with_reducible first | exact HB.out | apply below_alloc | apply pw_below_drewN | apply below_drew1) | exact HB.out))); (case aS => exact (below_size (by repeat (first | (with_reducible first | exact HB.out | apply below_alloc | apply pw_below_drewN | apply below_drew1) | exact HB.out)))); (case aL => exact Nat.le_of_ble_eq_true rfl); intro v6 w6 ho hb hg hat; have n1_ := Aside0.mk (show Kd.R Kd.string 9 w6 W2.heap.size (fun _ => True) v6 ((meterFull [a, b, c, d, e0]).take (2 * 3)) from ho); have n0_ := Aside0.mk hb; clear HB HO; have HB := n0_; have HO := n1_; clear n0_ n1_ ho hb hg hat))
        go_roundg 2
        case measure => omega
        case rel => exact ⟨3, (by first | rfl | (simp; done)), ⟨by omega⟩, ⟨fun n hn => by
          have h2 : n ∈ ([a, b, c, d, e0]).take 2 ++ [c] := hn
          rcases List.mem_append.1 h2 with h3 | h3
          · exact HI.out n h3
          · rw [List.mem_singleton.1 h3]; exact HIN.out⟩, ⟨by (with_reducible repeat (first | apply Kd.R_alloc | apply Kd.R_drewN | apply Kd.R_drew)); exact HO.out⟩, ⟨(by repeat (first | (with_reducible first | exact HB.out | apply below_alloc | apply pw_below_drewN | apply below_drew1) | exact HB.out))⟩⟩
      · have hr := HNONE.out (fun hh => hin (hh c (by simp)))
        subst hr
        have hn : wr.cell? ⟨w1.heap.size, 2, none⟩ = some (.int .i64 c) := (blk_cell BNR.out 2).trans rfl
        have hF : wr.cell? ⟨gF, 2, none⟩ = some (.string (⟨#[99, 104, 97, 115, 101, 115]⟩ : ByteArray)) := (blk_cell BFR.out 2).trans rfl
        by_cases hneg : c < 0
        · have q0 : decide (c < 0) = true := decide_eq_true hneg
          clear hin
          go_wp2
          go_ret
          exact ⟨rfl, below_step HBO.out (by repeat (first | (with_reducible first | exact HB.out | apply below_alloc | apply pw_below_drewN | apply below_drew1) | exact HB.out))⟩
        · have q0 : decide (c < 0) = false := decide_eq_false hneg
          have q1 : decide (c > 1000000000) = true := decide_eq_true (by unfold inCount at hin; omega)
          have q2 : decide (1000000000 < c) = true := q1
          clear hin
          go_wp2
          go_ret
          exact ⟨rfl, below_step HBO.out (by repeat (first | (with_reducible first | exact HB.out | apply below_alloc | apply pw_below_drewN | apply below_drew1) | exact HB.out))⟩
    · by_cases hin : inCount d
      · have HIN := Aside0.mk hin
        obtain ⟨k0, hk0⟩ := count_digits d hin
        have D0 := Aside0.mk hk0
        clear hk0
        have hn : wr.cell? ⟨w1.heap.size, 3, none⟩ = some (.int .i64 d) := (blk_cell BNR.out 3).trans rfl
        have hF : wr.cell? ⟨gF, 3, none⟩ = some (.string (⟨#[101, 100, 103, 101, 115]⟩ : ByteArray)) := (blk_cell BFR.out 3).trans rfl
        have q0 : decide (d < 0) = false := decide_eq_false (by have := hin.1; omega)
        have q1 : decide (d > 1000000000) = false := decide_eq_false (by have := hin.2; omega)
        have q2 : decide (1000000000 < d) = false := q1
        have q3 : wrap64 (d * 10000) = d * 10000 := w64_ (by have := hin.1; omega) (by have := hin.2; omega)
        clear hin
        go_wp2_with (first
          | (go_at_call 33; (with_reducible refine (digits_Text.calls k0 (d * 10000) _ _ (GInv2.below HG.out (below_step HBO.out (by repeat (first | (with_reducible first | exact HB.out | apply below_alloc | apply pw_below_drewN | apply below_drew1) | exact HB.out)))).one D0.out).mono ?_); rintro e w5 ⟨rfl, hb⟩; have n1_ := Aside0.mk (Kd.R_below (by (with_reducible repeat (first | apply Kd.R_alloc | apply Kd.R_drewN | apply Kd.R_drew)); exact HO.out) hb); have n0_ := Aside0.mk (below_step (by repeat (first | (with_reducible first | exact HB.out | apply below_alloc | apply pw_below_drewN | apply below_drew1) | exact HB.out)) hb); clear HB HO; have HB := n0_; have HO := n1_; clear n0_ n1_ hb)
          | ((with_reducible refine gate_builtin (b := .append) (xs := #[.tmp 26, .tmp 33]) rfl ?_); at_builtin; refine Kd.R_append_rows Kd.string (Rr := Kd.string.K (w5.alloc _)) (w0 := W2) W2.heap.size rfl (.tmp 26) (.tmp 33) 60 9 (.string ⟨#[]⟩) 16 rfl Tryz.underlying60 info9 rfl (by decide) (by omega) u3 ((meterFull [a, b, c, d, e0]).take (2 * 3)) [(⟨#[101, 100, 103, 101, 115]⟩ : ByteArray), mkS (Lib.decDigits d.toNat)] (some ⟨w5.heap.size, 0, none⟩) 2 2 (fun _ => True) (fun _ => False) rfl rfl ?aO (two_row _ _ _) (fun _ _ h_ => h_) (fun _ hk => hk.elim) (fun _ _ => trivial) ?aB ?aS ?aL ?_; (case aO => exact (by (with_reducible repeat (first | apply Kd.R_alloc | apply Kd.R_drewN | apply Kd.R_drew)); exact HO.out)); (case aB => exact (by repeat (first | (with_reducible first | exact HB.out | apply below_alloc | apply pw_below_drewN | apply below_drew1) | exact HB.out))); (case aS => exact (below_size (by repeat (first | (with_reducible first | exact HB.out | apply below_alloc | apply pw_below_drewN | apply below_drew1) | exact HB.out)))); (case aL => exact Nat.le_of_ble_eq_true rfl); intro v6 w6 ho hb hg hat; have n1_ := Aside0.mk (show Kd.R Kd.string 9 w6 W2.heap.size (fun _ => True) v6 ((meterFull [a, b, c, d, e0]).take (2 * 4)) from ho); have n0_ := Aside0.mk hb; clear HB HO; have HB := n0_; have HO := n1_; clear n0_ n1_ ho hb hg hat))
        go_roundg 1
        case measure => omega
        case rel => exact ⟨4, (by first | rfl | (simp; done)), ⟨by omega⟩, ⟨fun n hn => by
          have h2 : n ∈ ([a, b, c, d, e0]).take 3 ++ [d] := hn
          rcases List.mem_append.1 h2 with h3 | h3
          · exact HI.out n h3
          · rw [List.mem_singleton.1 h3]; exact HIN.out⟩, ⟨by (with_reducible repeat (first | apply Kd.R_alloc | apply Kd.R_drewN | apply Kd.R_drew)); exact HO.out⟩, ⟨(by repeat (first | (with_reducible first | exact HB.out | apply below_alloc | apply pw_below_drewN | apply below_drew1) | exact HB.out))⟩⟩
      · have hr := HNONE.out (fun hh => hin (hh d (by simp)))
        subst hr
        have hn : wr.cell? ⟨w1.heap.size, 3, none⟩ = some (.int .i64 d) := (blk_cell BNR.out 3).trans rfl
        have hF : wr.cell? ⟨gF, 3, none⟩ = some (.string (⟨#[101, 100, 103, 101, 115]⟩ : ByteArray)) := (blk_cell BFR.out 3).trans rfl
        by_cases hneg : d < 0
        · have q0 : decide (d < 0) = true := decide_eq_true hneg
          clear hin
          go_wp2
          go_ret
          exact ⟨rfl, below_step HBO.out (by repeat (first | (with_reducible first | exact HB.out | apply below_alloc | apply pw_below_drewN | apply below_drew1) | exact HB.out))⟩
        · have q0 : decide (d < 0) = false := decide_eq_false hneg
          have q1 : decide (d > 1000000000) = true := decide_eq_true (by unfold inCount at hin; omega)
          have q2 : decide (1000000000 < d) = true := q1
          clear hin
          go_wp2
          go_ret
          exact ⟨rfl, below_step HBO.out (by repeat (first | (with_reducible first | exact HB.out | apply below_alloc | apply pw_below_drewN | apply below_drew1) | exact HB.out))⟩
    · by_cases hin : inCount e0
      · have HIN := Aside0.mk hin
        obtain ⟨k0, hk0⟩ := count_digits e0 hin
        have D0 := Aside0.mk hk0
        clear hk0
        have hn : wr.cell? ⟨w1.heap.size, 4, none⟩ = some (.int .i64 e0) := (blk_cell BNR.out 4).trans rfl
        have hF : wr.cell? ⟨gF, 4, none⟩ = some (.string (⟨#[118, 105, 115, 105, 116, 115]⟩ : ByteArray)) := (blk_cell BFR.out 4).trans rfl
        have q0 : decide (e0 < 0) = false := decide_eq_false (by have := hin.1; omega)
        have q1 : decide (e0 > 1000000000) = false := decide_eq_false (by have := hin.2; omega)
        have q2 : decide (1000000000 < e0) = false := q1
        have q3 : wrap64 (e0 * 10000) = e0 * 10000 := w64_ (by have := hin.1; omega) (by have := hin.2; omega)
        clear hin
        go_wp2_with (first
          | (go_at_call 33; (with_reducible refine (digits_Text.calls k0 (e0 * 10000) _ _ (GInv2.below HG.out (below_step HBO.out (by repeat (first | (with_reducible first | exact HB.out | apply below_alloc | apply pw_below_drewN | apply below_drew1) | exact HB.out)))).one D0.out).mono ?_); rintro e w5 ⟨rfl, hb⟩; have n1_ := Aside0.mk (Kd.R_below (by (with_reducible repeat (first | apply Kd.R_alloc | apply Kd.R_drewN | apply Kd.R_drew)); exact HO.out) hb); have n0_ := Aside0.mk (below_step (by repeat (first | (with_reducible first | exact HB.out | apply below_alloc | apply pw_below_drewN | apply below_drew1) | exact HB.out)) hb); clear HB HO; have HB := n0_; have HO := n1_; clear n0_ n1_ hb)
          | ((with_reducible refine gate_builtin (b := .append) (xs := #[.tmp 26, .tmp 33]) rfl ?_); at_builtin; refine Kd.R_append_rows Kd.string (Rr := Kd.string.K (w5.alloc _)) (w0 := W2) W2.heap.size rfl (.tmp 26) (.tmp 33) 60 9 (.string ⟨#[]⟩) 16 rfl Tryz.underlying60 info9 rfl (by decide) (by omega) u3 ((meterFull [a, b, c, d, e0]).take (2 * 4)) [(⟨#[118, 105, 115, 105, 116, 115]⟩ : ByteArray), mkS (Lib.decDigits e0.toNat)] (some ⟨w5.heap.size, 0, none⟩) 2 2 (fun _ => True) (fun _ => False) rfl rfl ?aO (two_row _ _ _) (fun _ _ h_ => h_) (fun _ hk => hk.elim) (fun _ _ => trivial) ?aB ?aS ?aL ?_; (case aO => exact (by (with_reducible repeat (first | apply Kd.R_alloc | apply Kd.R_drewN | apply Kd.R_drew)); exact HO.out)); (case aB => exact (by repeat (first | (with_reducible first | exact HB.out | apply below_alloc | apply pw_below_drewN | apply below_drew1) | exact HB.out))); (case aS => exact (below_size (by repeat (first | (with_reducible first | exact HB.out | apply below_alloc | apply pw_below_drewN | apply below_drew1) | exact HB.out)))); (case aL => exact Nat.le_of_ble_eq_true rfl); intro v6 w6 ho hb hg hat; have n1_ := Aside0.mk (show Kd.R Kd.string 9 w6 W2.heap.size (fun _ => True) v6 ((meterFull [a, b, c, d, e0]).take (2 * 5)) from ho); have n0_ := Aside0.mk hb; clear HB HO; have HB := n0_; have HO := n1_; clear n0_ n1_ ho hb hg hat))
        go_roundg 0
        case measure => omega
        case rel => exact ⟨5, (by first | rfl | (simp; done)), ⟨by omega⟩, ⟨fun n hn => by
          have h2 : n ∈ ([a, b, c, d, e0]).take 4 ++ [e0] := hn
          rcases List.mem_append.1 h2 with h3 | h3
          · exact HI.out n h3
          · rw [List.mem_singleton.1 h3]; exact HIN.out⟩, ⟨by (with_reducible repeat (first | apply Kd.R_alloc | apply Kd.R_drewN | apply Kd.R_drew)); exact HO.out⟩, ⟨(by repeat (first | (with_reducible first | exact HB.out | apply below_alloc | apply pw_below_drewN | apply below_drew1) | exact HB.out))⟩⟩
      · have hr := HNONE.out (fun hh => hin (hh e0 (by simp)))
        subst hr
        have hn : wr.cell? ⟨w1.heap.size, 4, none⟩ = some (.int .i64 e0) := (blk_cell BNR.out 4).trans rfl
        have hF : wr.cell? ⟨gF, 4, none⟩ = some (.string (⟨#[118, 105, 115, 105, 116, 115]⟩ : ByteArray)) := (blk_cell BFR.out 4).trans rfl
        by_cases hneg : e0 < 0
        · have q0 : decide (e0 < 0) = true := decide_eq_true hneg
          clear hin
          go_wp2
          go_ret
          exact ⟨rfl, below_step HBO.out (by repeat (first | (with_reducible first | exact HB.out | apply below_alloc | apply pw_below_drewN | apply below_drew1) | exact HB.out))⟩
        · have q0 : decide (e0 < 0) = false := decide_eq_false hneg
          have q1 : decide (e0 > 1000000000) = true := decide_eq_true (by unfold inCount at hin; omega)
          have q2 : decide (1000000000 < e0) = true := q1
          clear hin
          go_wp2
          go_ret
          exact ⟨rfl, below_step HBO.out (by repeat (first | (with_reducible first | exact HB.out | apply below_alloc | apply pw_below_drewN | apply below_drew1) | exact HB.out))⟩
    · have HF : Kd.R Kd.string 9 wr W2.heap.size (fun _ => True) u3 (meterFull [a, b, c, d, e0]) := HO.out
      have HOF := Aside0.mk HF
      clear HF HO
      obtain ⟨Ao17, co17, eo17⟩ := Kd.R_slice HOF.out
      subst eo17
      have HR := Aside0.mk (HALL.out HI.out)
      go_wp2_with (first | (go_at_call 31; (with_reducible refine (strings_Join.calls _ _ (meterFull [a, b, c, d, e0]) (⟨#[32]⟩ : ByteArray) r _ ?side1 ?side2 ?side3 HR.out).mono ?_); (case side1 => exact (Kd.R_reads' HOF.out).2.2); (case side2 => exact (Kd.R_reads' HOF.out).2.1); (case side3 => exact (GInv2.below HG.out (below_step HBO.out HB.out)).one); rintro e w18 ⟨rfl, hb⟩; have n0_ := Aside0.mk (below_step (by repeat (first | (with_reducible first | exact HB.out | apply below_alloc | apply pw_below_drewN | apply below_drew1) | exact HB.out)) hb); clear HB; have HB := n0_; clear n0_ hb))
      go_ret
      exact ⟨rfl, below_step HBO.out HB.out⟩
theorem meter_join (l : List Int) (hl : l.length = 5) (h : ∀ n ∈ l, inCount n) : strings_Join.f (meterFull l) ⟨#[32]⟩ = some (mkS (pairs true meterW l)) := by
  match l, hl with
  | [a, b, c, d, e0], _ =>
    have D : ∀ n : Int, inCount n → (Lib.decDigits n.toNat).length ≤ 20 := fun n hn => dec_len20 n.toNat (by have := hn.2; omega)
    have e : Lib.join ((meterFull [a, b, c, d, e0]).map (·.data.toList)) (⟨#[32]⟩ : ByteArray).data.toList = pairs true meterW [a, b, c, d, e0] := by
      simp [meterFull, meterW, pairs, Lib.join_cons, Lib.joinTail, mkS]
    have hlen : (pairs true meterW [a, b, c, d, e0]).length ≤ 300 := by
      have h1 := D a (h a (by simp))
      have h2 := D b (h b (by simp))
      have h3 := D c (h c (by simp))
      have h4 := D d (h d (by simp))
      have h5 := D e0 (h e0 (by simp))
      simp [pairs, meterW]
      omega
    unfold strings_Join.f
    rw [e, if_pos ⟨by show (10 : Nat) ≤ _; omega, by omega⟩]
def meter_Text.f (a b c d e : Int) : Option ByteArray := some (meterText [a, b, c, d, e])
theorem meter_Text.calls (a b c d e0 : Int) (r : ByteArray) (w : World) (hG : GInv2 w) (hh : meter_Text.f a b c d e0 = some r) :
    Calls Tryz.prog 25 #[.agg #[.int .i64 a, .int .i64 b, .int .i64 c, .int .i64 d, .int .i64 e0]] w fun e w' => e = .returned (.string r) ∧ Below w.heap.size w w' := by
  obtain rfl := Option.some.inj hh
  refine meter_walk a b c d e0 w hG _ (fun h => ?_) (fun h => if_neg h)
  rw [meter_join _ rfl h]
  exact congrArg some (if_pos h).symm
end Go.Proofs.YtaljjdodjimgdaaGreatDoor.P
namespace Go.Proofs.YtaljjdodjimgdaaGreatDoor.P
open Go.RowKit Go.Proofs.YtaljjdodjimgdaaGreatDoorW.PrintWords Go.Proofs.YtaljjdodjimgdaaGreatDoorW.PrintLast Go.Proofs.YtaljjdodjimgdaaGreatDoorW.PrintMore
attribute [local go_sem] max2_int min2_int max_two min_two max_three min_three max_four min_four
set_option linter.unusedVariables false
set_option linter.unusedSimpArgs false
def oculusref07_Words.l0 : Nat → ByteArray → List ByteArray → Int → Int → Option (List ByteArray)
 | 0, _, _, _, _ => none
 | k + 1, x0, x3, x4, x5 => if x5 ≤ (x0.size : Int) then (if x5 = (x0.size : Int) then (if 0 ≤ x4 then (if x4 ≤ x5 then (if x3.length < 8796093022208 then (oculusref07_Words.l0 k x0 (x3 ++ [x0.extract (x4 : Int).toNat (x5 : Int).toNat]) (wrap64 (x5 + 1)) (wrap64 (x5 + 1))) else (none)) else (none)) else (none)) else (if 0 ≤ x5 then (if x5 < (x0.size : Int) then (if (bt x0 x5) = 32 then (if 0 ≤ x4 then (if x4 ≤ x5 then (if x3.length < 8796093022208 then (oculusref07_Words.l0 k x0 (x3 ++ [x0.extract (x4 : Int).toNat (x5 : Int).toNat]) (wrap64 (x5 + 1)) (wrap64 (x5 + 1))) else (none)) else (none)) else (none)) else (oculusref07_Words.l0 k x0 x3 x4 (wrap64 (x5 + 1)))) else (none)) else (none))) else (some x3)
def oculusref07_Words.f (k : Nat) (a0 : ByteArray) : Option (List ByteArray) := oculusref07_Words.l0 k a0 ([] : List ByteArray) 0 0
theorem oculusref07_Words.mono_l : ∀ k, (∀ y0 y1 y2 y3, LeO (oculusref07_Words.l0 k y0 y1 y2 y3) (oculusref07_Words.l0 (k + 1) y0 y1 y2 y3))
 | 0 => fun _ _ _ _ r h => by simp [oculusref07_Words.l0] at h
 | k + 1 => by
  have ih0 := oculusref07_Words.mono_l k
  ·intro y0 y1 y2 y3
   unfold oculusref07_Words.l0
   repeat' first
   | (with_reducible exact ih0 _ _ _ _)
   | (with_reducible exact LeO.refl _)
   | (with_reducible exact LeO.none _)
   | (with_reducible refine LeO.ite ?_ ?_)
   | (with_reducible refine LeO.bind ?_ (fun _ => ?_))
   | exact ih0 _ _ _ _
   | exact LeO.none _
   | refine LeO.ite ?_ ?_
   | refine LeO.bind ?_ (fun _ => ?_)
theorem oculusref07_Words.mono : ∀ a0 k, LeO (oculusref07_Words.f k a0) (oculusref07_Words.f (k + 1) a0) := by
 intro a0 k
 have ih0 := oculusref07_Words.mono_l k
 unfold oculusref07_Words.f
 repeat' first
   | (with_reducible exact ih0 _ _ _ _)
   | (with_reducible exact LeO.refl _)
   | (with_reducible exact LeO.none _)
   | (with_reducible refine LeO.ite ?_ ?_)
   | (with_reducible refine LeO.bind ?_ (fun _ => ?_))
   | exact ih0 _ _ _ _
   | exact LeO.none _
   | refine LeO.ite ?_ ?_
   | refine LeO.bind ?_ (fun _ => ?_)
set_option maxHeartbeats 8000000 in
set_option maxRecDepth 100000 in
theorem oculusref07_Words.calls (k : Nat) (a0 : ByteArray) (r : List ByteArray) (w : World) (h : oculusref07_Words.f k a0 = some r) :
  Calls Tryz.prog 40 #[.string a0] w fun e w' => ∃ v0_ : Value, e = .returned (v0_) ∧ Kd.R Kd.string 9 w' w.heap.size (fun _ => True) v0_ r ∧ Below w.heap.size w w' := by
 have HB := Aside0.mk (Below.refl w.heap.size w)
 have H : (oculusref07_Words.l0 k a0 ([] : List ByteArray) 0 0) = some r := h
 clear h
 have H' := Aside0.mk H
 clear H
 go_enter Tryz.func40, Tryz.ntmps40
 go_wp2
 go_loopg [3, 4, 5] k (fun kq v3 v4 v5 w' => ∃ (x3_1 : List ByteArray) (x4_1 : Int) (x5_1 : Int), v4 = .int .i64 x4_1 ∧ v5 = .int .i64 x5_1 ∧ Aside0 (oculusref07_Words.l0 kq a0 x3_1 x4_1 x5_1 = some r) ∧ Aside0 (kq ≤ k) ∧ Aside0 (Kd.R Kd.string 9 w' w.heap.size (fun _ => True) v3 x3_1) ∧ Aside0 (Below w.heap.size w w'))
 case atStart => exact ⟨(([] : List ByteArray)), (0), (0), (by first | rfl | (simp; done) | (simp [*]; done)), (by first | rfl | (simp; done) | (simp [*]; done)), H', ⟨Nat.le_refl _⟩, ⟨by first | exact Kd.R_nil _ _ _ _ _ | exact Kd.N_nil _ _ _ _ _ | exact Kd.V_nil _ _ _ _ _ | exact Kd.Q_nil _ _ _ _ _ | exact Kd.S_nil _ _ _ _ _⟩, ⟨by repeat (first | (with_reducible first | exact HB.out | apply below_alloc | apply pw_below_drewN | apply below_drew1) | exact HB.out)⟩⟩
 case round =>
  clear H'
  obtain ⟨x3_1, x4_1, x5_1, rfl, rfl, HA, HK1, HO_3, HB⟩ := hrel
  cases gk with
  | zero => exact absurd HA.out (by simp [oculusref07_Words.l0])
  | succ k1 =>
   have H := HA.out
   clear HA
   simp only [oculusref07_Words.l0] at H
   by_cases c2 : x5_1 ≤ (a0.size : Int)
   ·rw [if_pos c2] at H
    have c2b0 : decide (x5_1 ≤ (a0.size : Int)) = true := decide_eq_true c2
    clear c2
    by_cases c3 : x5_1 = (a0.size : Int)
    ·rw [if_pos c3] at H
     have c3b0 : (x5_1 == (a0.size : Int)) = true := beq_iff_eq.mpr c3
     have c3b1 : (x5_1 != (a0.size : Int)) = false := bne_eq_false_iff_eq.mpr c3
     clear c3
     by_cases c4 : 0 ≤ x4_1
     ·rw [if_pos c4] at H
      have c4b0 := eq_true c4
      have c4b1 : decide (0 ≤ x4_1) = true := decide_eq_true c4
      clear c4
      by_cases c5 : x4_1 ≤ x5_1
      ·rw [if_pos c5] at H
       have c5b0 := eq_true c5
       have c5b1 : decide (x4_1 ≤ x5_1) = true := decide_eq_true c5
       clear c5
       have c6b0 := eq_true (of_decide_eq_true (by first | (with_reducible assumption) | assumption) : x5_1 ≤ (a0.size : Int))
       by_cases c7 : x3_1.length < 8796093022208
       ·rw [if_pos c7] at H
        have LMc7 := Aside0.mk c7
        clear c7
        obtain ⟨y282, hy282⟩ : ∃ y_ : List ByteArray, y_ = (x3_1 ++ [a0.extract (x4_1 : Int).toNat (x5_1 : Int).toNat]) := ⟨_, rfl⟩
        replace H : (oculusref07_Words.l0 k1 a0 y282 (wrap64 (x5_1 + 1)) (wrap64 (x5_1 + 1))) = some r := by first | (rw [hy282]; with_reducible exact H) | (have H2_ := (Option.bind_some _ _).symm.trans H; rw [hy282]; with_reducible exact H2_) | (have H2_ := (Option.bind_some _ _).symm.trans H; with_reducible exact H2_) | with_reducible exact H | (rw [hy282]; exact H) | exact H
        have Ny282 := Aside0.mk hy282
        clear hy282
        have H' := Aside0.mk H
        clear H
        go_wp2_with (first | ((with_reducible refine gate_builtin (b := .append) (xs := #[.tmp 22, .tmp 27]) rfl ?_); at_builtin; refine Kd.R_append Kd.string (w0 := w) w.heap.size rfl (.tmp 22) (.tmp 27) 60 9 (.string ⟨#[]⟩) 16 rfl Tryz.underlying60 info9 rfl (by decide) (by omega) u3 x3_1 (a0.extract (x4_1 : Int).toNat (x5_1 : Int).toNat) [.string (a0.extract (x4_1 : Int).toNat (x5_1 : Int).toNat)] (fun _ => True) (fun _ => False) rfl rfl ?aP (fun _ hk => hk.elim) ?aF ?aO ?aB ?aS ?aL ?_; (case aP => exact rfl); (case aB => exact (by repeat (first | (with_reducible first | exact HB.out | apply below_alloc | apply pw_below_drewN | apply below_drew1) | exact HB.out))); (case aF => exact (fun _ _ => trivial)); (case aO => exact (by (with_reducible repeat (first | apply Kd.R_alloc | apply Kd.R_drewN | apply Kd.R_drew)); exact HO_3.out)); (case aS => exact (below_size (by repeat (first | (with_reducible first | exact HB.out | apply below_alloc | apply pw_below_drewN | apply below_drew1) | exact HB.out)))); (case aL => have := LMc7.out; omega); intro v283 w8 ho hb hg hat; rw [← Ny282.out] at ho; have n0_ := Aside0.mk (hb); have n1_ := Aside0.mk (ho); clear HB; clear HO_3; have HB := n0_; have HO284 := n1_; clear n0_ n1_; clear ho hb hg hat))
        go_roundg k1
        case measure => have := HK1.out; omega
        case rel => exact ⟨(y282), (wrap64 (x5_1 + 1)), (wrap64 (x5_1 + 1)), (by first | rfl | (simp; done) | (simp [*]; done)), (by first | rfl | (simp; done) | (simp [*]; done)), H', ⟨by have := HK1.out; omega⟩, ⟨by (with_reducible repeat (first | apply Kd.R_alloc | apply Kd.R_drewN | apply Kd.R_drew)); exact HO284.out⟩, ⟨by repeat (first | (with_reducible first | exact HB.out | apply below_alloc | apply pw_below_drewN | apply below_drew1) | exact HB.out)⟩⟩
       ·rw [if_neg c7] at H
        exact absurd H (by simp)
      ·rw [if_neg c5] at H
       exact absurd H (by simp)
     ·rw [if_neg c4] at H
      exact absurd H (by simp)
    ·rw [if_neg c3] at H
     have c3b0 : (x5_1 == (a0.size : Int)) = false := beq_eq_false_iff_ne.mpr c3
     have c3b1 : (x5_1 != (a0.size : Int)) = true := bne_iff_ne.mpr c3
     by_cases c9 : 0 ≤ x5_1
     ·rw [if_pos c9] at H
      have c9b0 : decide (0 ≤ x5_1) = true := decide_eq_true c9
      clear c9
      by_cases c10 : x5_1 < (a0.size : Int)
      ·rw [if_pos c10] at H
       have c10b0 : decide (x5_1 < (a0.size : Int)) = true := decide_eq_true c10
       clear c10
       by_cases c12 : (bt a0 x5_1) = 32
       ·rw [if_pos c12] at H
        have c12b0 : ((bt a0 x5_1) == 32) = true := beq_iff_eq.mpr c12
        have c12b1 : ((bt a0 x5_1) != 32) = false := bne_eq_false_iff_eq.mpr c12
        clear c12
        by_cases c13 : 0 ≤ x4_1
        ·rw [if_pos c13] at H
         have c13b0 := eq_true c13
         have c13b1 : decide (0 ≤ x4_1) = true := decide_eq_true c13
         clear c13
         by_cases c14 : x4_1 ≤ x5_1
         ·rw [if_pos c14] at H
          have c14b0 := eq_true c14
          have c14b1 : decide (x4_1 ≤ x5_1) = true := decide_eq_true c14
          clear c14
          have c15b0 := eq_true (of_decide_eq_true (by first | (with_reducible assumption) | assumption) : x5_1 ≤ (a0.size : Int))
          by_cases c16 : x3_1.length < 8796093022208
          ·rw [if_pos c16] at H
           have LMc16 := Aside0.mk c16
           clear c16
           obtain ⟨y285, hy285⟩ : ∃ y_ : List ByteArray, y_ = (x3_1 ++ [a0.extract (x4_1 : Int).toNat (x5_1 : Int).toNat]) := ⟨_, rfl⟩
           replace H : (oculusref07_Words.l0 k1 a0 y285 (wrap64 (x5_1 + 1)) (wrap64 (x5_1 + 1))) = some r := by first | (rw [hy285]; with_reducible exact H) | (have H2_ := (Option.bind_some _ _).symm.trans H; rw [hy285]; with_reducible exact H2_) | (have H2_ := (Option.bind_some _ _).symm.trans H; with_reducible exact H2_) | with_reducible exact H | (rw [hy285]; exact H) | exact H
           have Ny285 := Aside0.mk hy285
           clear hy285
           have H' := Aside0.mk H
           clear H
           have p11 : 0 ≤ (x5_1 : Int) := of_decide_eq_true (by first | (with_reducible assumption) | assumption)
           have q11 : x5_1 < (a0.size : Int) := of_decide_eq_true (by first | (with_reducible assumption) | assumption)
           have hx11 := bt_at a0 x5_1
           replace p11 := eq_true p11
           replace q11 := eq_true q11
           go_wp2_with (first | ((with_reducible refine gate_builtin (b := .append) (xs := #[.tmp 22, .tmp 27]) rfl ?_); at_builtin; refine Kd.R_append Kd.string (w0 := w) w.heap.size rfl (.tmp 22) (.tmp 27) 60 9 (.string ⟨#[]⟩) 16 rfl Tryz.underlying60 info9 rfl (by decide) (by omega) u3 x3_1 (a0.extract (x4_1 : Int).toNat (x5_1 : Int).toNat) [.string (a0.extract (x4_1 : Int).toNat (x5_1 : Int).toNat)] (fun _ => True) (fun _ => False) rfl rfl ?aP (fun _ hk => hk.elim) ?aF ?aO ?aB ?aS ?aL ?_; (case aP => exact rfl); (case aB => exact (by repeat (first | (with_reducible first | exact HB.out | apply below_alloc | apply pw_below_drewN | apply below_drew1) | exact HB.out))); (case aF => exact (fun _ _ => trivial)); (case aO => exact (by (with_reducible repeat (first | apply Kd.R_alloc | apply Kd.R_drewN | apply Kd.R_drew)); exact HO_3.out)); (case aS => exact (below_size (by repeat (first | (with_reducible first | exact HB.out | apply below_alloc | apply pw_below_drewN | apply below_drew1) | exact HB.out)))); (case aL => have := LMc16.out; omega); intro v286 w17 ho hb hg hat; rw [← Ny285.out] at ho; have n0_ := Aside0.mk (hb); have n1_ := Aside0.mk (ho); clear HB; clear HO_3; have HB := n0_; have HO287 := n1_; clear n0_ n1_; clear ho hb hg hat))
           go_roundg k1
           case measure => have := HK1.out; omega
           case rel => exact ⟨(y285), (wrap64 (x5_1 + 1)), (wrap64 (x5_1 + 1)), (by first | rfl | (simp; done) | (simp [*]; done)), (by first | rfl | (simp; done) | (simp [*]; done)), H', ⟨by have := HK1.out; omega⟩, ⟨by (with_reducible repeat (first | apply Kd.R_alloc | apply Kd.R_drewN | apply Kd.R_drew)); exact HO287.out⟩, ⟨by repeat (first | (with_reducible first | exact HB.out | apply below_alloc | apply pw_below_drewN | apply below_drew1) | exact HB.out)⟩⟩
          ·rw [if_neg c16] at H
           exact absurd H (by simp)
         ·rw [if_neg c14] at H
          exact absurd H (by simp)
        ·rw [if_neg c13] at H
         exact absurd H (by simp)
       ·rw [if_neg c12] at H
        have c12b0 : ((bt a0 x5_1) == 32) = false := beq_eq_false_iff_ne.mpr c12
        have c12b1 : ((bt a0 x5_1) != 32) = true := bne_iff_ne.mpr c12
        have H' := Aside0.mk H
        clear H
        have p11 : 0 ≤ (x5_1 : Int) := of_decide_eq_true (by first | (with_reducible assumption) | assumption)
        have q11 : x5_1 < (a0.size : Int) := of_decide_eq_true (by first | (with_reducible assumption) | assumption)
        have hx11 := bt_at a0 x5_1
        replace p11 := eq_true p11
        replace q11 := eq_true q11
        go_wp2
        go_roundg k1
        case measure => have := HK1.out; omega
        case rel => exact ⟨(x3_1), (x4_1), (wrap64 (x5_1 + 1)), (by first | rfl | (simp; done) | (simp [*]; done)), (by first | rfl | (simp; done) | (simp [*]; done)), H', ⟨by have := HK1.out; omega⟩, ⟨by (with_reducible repeat (first | apply Kd.R_alloc | apply Kd.R_drewN | apply Kd.R_drew)); exact HO_3.out⟩, ⟨by repeat (first | (with_reducible first | exact HB.out | apply below_alloc | apply pw_below_drewN | apply below_drew1) | exact HB.out)⟩⟩
      ·rw [if_neg c10] at H
       exact absurd H (by simp)
     ·rw [if_neg c9] at H
      exact absurd H (by simp)
   ·rw [if_neg c2] at H
    have c2b0 : decide (x5_1 ≤ (a0.size : Int)) = false := decide_eq_false c2
    clear c2
    obtain rfl := Option.some.inj H
    go_wp2
    go_ret
    exact ⟨_, by first | rfl | (simp [errW_none, errW_some] <;> rfl) | (simp [*, errW_none, errW_some] <;> rfl), by (with_reducible repeat (first | apply Kd.R_alloc | apply Kd.R_drewN | apply Kd.R_drew)); exact HO_3.out, by repeat (first | (with_reducible first | exact HB.out | apply below_alloc | apply pw_below_drewN | apply below_drew1) | exact HB.out)⟩
end Go.Proofs.YtaljjdodjimgdaaGreatDoor.P
namespace Go.Proofs.YtaljjdodjimgdaaGreatDoor.P
open Go.RowKit Go.Proofs.YtaljjdodjimgdaaGreatDoorW.PrintWords Go.Proofs.YtaljjdodjimgdaaGreatDoorW.PrintLast Go.Proofs.YtaljjdodjimgdaaGreatDoorW.PrintMore
def wordsFrom : List UInt8 → List UInt8 → List (List UInt8)
  | acc, [] => [acc]
  | acc, b :: l => if b = 32 then acc :: wordsFrom [] l else wordsFrom (acc ++ [b]) l
theorem index_at (l : List UInt8) : ∀ acc : List UInt8, (∀ b ∈ acc, b ≠ 32) → Lib.index (acc ++ 32 :: l) [32] = (acc.length : Int)
  | [], _ => by simp [Lib.index, List.isPrefixOf]
  | a :: acc, h => by
    have ha : ((32 : UInt8) == a) = false := beq_eq_false_iff_ne.mpr (fun e => h a (by simp) e.symm)
    have ih := index_at l acc (fun b hb => h b (by simp [hb]))
    rw [List.cons_append]
    unfold Lib.index
    rw [ih]
    have hne : ((acc.length : Int) == -1) = false := beq_eq_false_iff_ne.mpr (by omega)
    simp [List.isPrefixOf, ha, hne]
theorem split_words : ∀ (l acc : List UInt8), (∀ b ∈ acc, b ≠ 32) → Lib.splitK [32] 0 (Lib.count l [32]) (acc ++ l) = wordsFrom acc l
  | [], acc, h => by
    rw [Lib.count_miss (by simp [Lib.index]), List.append_nil]
    rfl
  | b :: l, acc, h => by
    by_cases hb : b = 32
    · subst hb
      rw [Lib.count_cons_eq, Nat.add_comm]
      have hi := index_at l acc h
      unfold Lib.splitK wordsFrom
      rw [if_neg (by rw [hi]; simp), if_pos rfl, hi]
      have ih := split_words l [] (by simp)
      rw [List.nil_append] at ih
      simp only [Int.toNat_natCast, Nat.add_zero, List.take_left', List.length_singleton]
      rw [show acc ++ 32 :: l = (acc ++ [32]) ++ l by simp, show acc.length + 1 = (acc ++ [32]).length by simp, List.drop_left, ih]
    · rw [Lib.count_cons_ne b 32 l hb, show acc ++ b :: l = (acc ++ [b]) ++ l by simp]
      unfold wordsFrom
      rw [if_neg hb]
      exact split_words l (acc ++ [b]) (fun x hx => by
        rcases List.mem_append.1 hx with hx | hx
        · exact h x hx
        · rw [List.mem_singleton.1 hx]; exact hb)
theorem words_loop (s : List UInt8) (hs : s.length ≤ 1000000) (d : Nat) : ∀ (i st : Nat) (out : List (List UInt8)), i + d = s.length → st ≤ i → out.length ≤ i →
    Ev (fun k => oculusref07_Words.l0 k (mkS s) (out.map mkS) (st : Int) (i : Int)) ((out ++ wordsFrom ((s.take i).drop st) (s.drop i)).map mkS) := by
  have e1 : ∀ i : Nat, i ≤ 1000000 → wrap64 ((i : Int) + 1) = ((i + 1 : Nat) : Int) := fun i hi => by rw [w64] <;> omega
  induction d with
  | zero =>
    intro i st out hi hst ho
    refine ev_succ (fun k => oculusref07_Words.l0.eq_2 ..) ?_
    refine ev_pos (by rw [mkS_size]; omega) (ev_pos (by rw [mkS_size]; omega) (ev_pos (by omega) (ev_pos (by omega) (ev_pos (by simp; omega) ?_))))
    rw [e1 i (by omega)]
    refine ev_succ (fun k => oculusref07_Words.l0.eq_2 ..) (ev_neg (by rw [mkS_size]; omega) ?_)
    rw [List.drop_eq_nil_of_le (show s.length ≤ i by omega), Int.toNat_natCast, Int.toNat_natCast, mkS_extract]
    simp only [wordsFrom, List.map_append, List.map_cons, List.map_nil]
    exact ev_now _
  | succ d ih =>
    intro i st out hi hst ho
    have hl : i < s.length := by omega
    have hb : bt (mkS s) (i : Int) = (s[i].toNat : Int) := bt_get (mkS s) i hl
    refine ev_succ (fun k => oculusref07_Words.l0.eq_2 ..) ?_
    refine ev_pos (by rw [mkS_size]; omega) (ev_neg (by rw [mkS_size]; omega) (ev_pos (by omega) (ev_pos (by rw [mkS_size]; omega) ?_)))
    rw [hb, List.drop_eq_getElem_cons hl, e1 i (by omega)]
    unfold wordsFrom
    by_cases h32 : s[i] = 32
    · rw [if_pos h32, h32]
      refine ev_pos rfl (ev_pos (by omega) (ev_pos (by omega) (ev_pos (by simp; omega) ?_)))
      have := ih (i + 1) (i + 1) (out ++ [(s.take i).drop st]) (by omega) (by omega) (by simp; omega)
      rw [List.drop_eq_nil_of_le (show (s.take (i + 1)).length ≤ i + 1 by simp; omega)] at this
      rw [Int.toNat_natCast, Int.toNat_natCast, mkS_extract]
      simp only [List.map_append, List.map_cons, List.map_nil, List.append_assoc, List.cons_append, List.nil_append] at this ⊢
      exact this
    · rw [if_neg h32]
      refine ev_neg (fun e => h32 ?_) ?_
      · have : s[i].toNat = (32 : UInt8).toNat := by show s[i].toNat = 32; omega
        exact UInt8.toNat_inj.1 this
      · have := ih (i + 1) st out (by omega) (by omega) (by omega)
        rw [List.take_add_one, List.getElem?_eq_getElem hl, Option.toList_some, List.drop_append_of_le_length (by simp; omega)] at this
        exact this
theorem words_is (s : List UInt8) (hs : s.length ≤ 1000000) : Ev (fun k => oculusref07_Words.f k (mkS s)) ((wordsFrom [] s).map mkS) := by
  have := words_loop s hs s.length 0 0 [] (by omega) (by omega) (by simp)
  unfold oculusref07_Words.f
  simpa using this
theorem words_blank : ∀ (w acc l : List UInt8), (∀ b ∈ w, b ≠ 32) → wordsFrom acc (w ++ 32 :: l) = (acc ++ w) :: wordsFrom [] l
  | [], acc, l, _ => by
    rw [List.nil_append, List.append_nil]
    conv => lhs; unfold wordsFrom
    rw [if_pos rfl]
  | b :: w, acc, l, h => by
    rw [List.cons_append]
    conv => lhs; unfold wordsFrom
    rw [if_neg (h b (by simp)), words_blank w (acc ++ [b]) l (fun x hx => h x (by simp [hx])), List.append_assoc]
    rfl
theorem words_end : ∀ (w acc : List UInt8), (∀ b ∈ w, b ≠ 32) → wordsFrom acc w = [acc ++ w]
  | [], acc, _ => by rw [List.append_nil]; rfl
  | b :: w, acc, h => by
    unfold wordsFrom
    rw [if_neg (h b (by simp)), words_end w (acc ++ [b]) (fun x hx => h x (by simp [hx])), List.append_assoc]
    rfl
theorem dec_noblank (n : Nat) : ∀ b ∈ Lib.decDigits n, b ≠ 32 := fun b hb e => by
  have := dec_bytes n b hb
  subst e
  revert this
  decide
theorem words_pairs (a b c d e : Int) : wordsFrom [] (pairs true meterW [a, b, c, d, e]) = [[101, 118, 97, 108, 115], Lib.decDigits a.toNat, [114, 101, 97, 100, 115], Lib.decDigits b.toNat, [99, 104, 97, 115, 101, 115], Lib.decDigits c.toNat, [101, 100, 103, 101, 115], Lib.decDigits d.toNat, [118, 105, 115, 105, 116, 115], Lib.decDigits e.toNat] := by
  have e0 : pairs true meterW [a, b, c, d, e] = [101, 118, 97, 108, 115] ++ 32 :: (Lib.decDigits a.toNat ++ 32 :: ([114, 101, 97, 100, 115] ++ 32 :: (Lib.decDigits b.toNat ++ 32 :: ([99, 104, 97, 115, 101, 115] ++ 32 :: (Lib.decDigits c.toNat ++ 32 :: ([101, 100, 103, 101, 115] ++ 32 :: (Lib.decDigits d.toNat ++ 32 :: ([118, 105, 115, 105, 116, 115] ++ 32 :: Lib.decDigits e.toNat)))))))) := by
    simp [pairs, meterW]
  rw [e0, words_blank _ _ _ (by decide), words_blank _ _ _ (dec_noblank _), words_blank _ _ _ (by decide), words_blank _ _ _ (dec_noblank _), words_blank _ _ _ (by decide), words_blank _ _ _ (dec_noblank _), words_blank _ _ _ (by decide), words_blank _ _ _ (dec_noblank _), words_blank _ _ _ (by decide), words_end _ _ (dec_noblank _)]
  simp
end Go.Proofs.YtaljjdodjimgdaaGreatDoor.P
namespace Go.Proofs.YtaljjdodjimgdaaGreatDoor.P
open Go.RowKit Go.Proofs.YtaljjdodjimgdaaGreatDoorW.PrintWords Go.Proofs.YtaljjdodjimgdaaGreatDoorW.PrintLast Go.Proofs.YtaljjdodjimgdaaGreatDoorW.PrintMore
attribute [local go_sem] max2_int min2_int max_two min_two max_three min_three max_four min_four
set_option linter.unusedVariables false
set_option linter.unusedSimpArgs false
def oculusref36_number.l0 : Nat → ByteArray → Int → Int → Option (Int)
 | 0, _, _, _ => none
 | k + 1, x0, x3, x4 => if x4 < (x0.size : Int) then (if 0 ≤ x4 then (if (bt x0 x4) < 48 then (some (-1)) else (if (bt x0 x4) > 57 then (some (-1)) else (if x3 > 1000000000 then (some (-1)) else (oculusref36_number.l0 k x0 (wrap64 ((wrap64 ((wrap64 (x3 * 10)) + (wrap64 (bt x0 x4)))) - 48)) (wrap64 (x4 + 1)))))) else (none)) else (some x3)
def oculusref36_number.f (k : Nat) (a0 : ByteArray) : Option (Int) := oculusref36_number.l0 k a0 0 0
theorem oculusref36_number.mono_l : ∀ k, (∀ y0 y1 y2, LeO (oculusref36_number.l0 k y0 y1 y2) (oculusref36_number.l0 (k + 1) y0 y1 y2))
 | 0 => fun _ _ _ r h => by simp [oculusref36_number.l0] at h
 | k + 1 => by
  have ih0 := oculusref36_number.mono_l k
  ·intro y0 y1 y2
   unfold oculusref36_number.l0
   repeat' first
   | (with_reducible exact ih0 _ _ _)
   | (with_reducible exact LeO.refl _)
   | (with_reducible exact LeO.none _)
   | (with_reducible refine LeO.ite ?_ ?_)
   | (with_reducible refine LeO.bind ?_ (fun _ => ?_))
   | exact ih0 _ _ _
   | exact LeO.none _
   | refine LeO.ite ?_ ?_
   | refine LeO.bind ?_ (fun _ => ?_)
theorem oculusref36_number.mono : ∀ a0 k, LeO (oculusref36_number.f k a0) (oculusref36_number.f (k + 1) a0) := by
 intro a0 k
 have ih0 := oculusref36_number.mono_l k
 unfold oculusref36_number.f
 repeat' first
   | (with_reducible exact ih0 _ _ _)
   | (with_reducible exact LeO.refl _)
   | (with_reducible exact LeO.none _)
   | (with_reducible refine LeO.ite ?_ ?_)
   | (with_reducible refine LeO.bind ?_ (fun _ => ?_))
   | exact ih0 _ _ _
   | exact LeO.none _
   | refine LeO.ite ?_ ?_
   | refine LeO.bind ?_ (fun _ => ?_)
set_option maxHeartbeats 8000000 in
set_option maxRecDepth 100000 in
theorem oculusref36_number.calls (k : Nat) (a0 : ByteArray) (r : Int) (w : World) (h : oculusref36_number.f k a0 = some r) :
  Calls Tryz.prog 41 #[.string a0] w fun e w' => e = .returned (.int .i64 r) ∧ Drawn0 w w' := by
 have H : (oculusref36_number.l0 k a0 0 0) = some r := h
 clear h
 have H' := Aside0.mk H
 clear H
 go_enter Tryz.func41, Tryz.ntmps41
 go_wp2
 go_loopg [3, 4] k (fun kq v3 v4 w' => ∃ (x3_1 : Int) (x4_1 : Int), v3 = .int .i64 x3_1 ∧ v4 = .int .i64 x4_1 ∧ Aside0 (oculusref36_number.l0 kq a0 x3_1 x4_1 = some r) ∧ Aside0 (kq ≤ k) ∧ Drawn0 w w')
 case atStart => exact ⟨(0), (0), (by first | rfl | (simp; done) | (simp [*]; done)), (by first | rfl | (simp; done) | (simp [*]; done)), H', ⟨Nat.le_refl _⟩, by repeat (first | exact Drawn0.refl _ | apply Drawn0.step)⟩
 case round =>
  clear H'
  obtain ⟨x3_1, x4_1, rfl, rfl, HA, HK1, ⟨m1, rfl⟩⟩ := hrel
  cases gk with
  | zero => exact absurd HA.out (by simp [oculusref36_number.l0])
  | succ k1 =>
   have H := HA.out
   clear HA
   simp only [oculusref36_number.l0] at H
   by_cases c2 : x4_1 < (a0.size : Int)
   ·rw [if_pos c2] at H
    have c2b0 : decide (x4_1 < (a0.size : Int)) = true := decide_eq_true c2
    clear c2
    by_cases c3 : 0 ≤ x4_1
    ·rw [if_pos c3] at H
     have c3b0 : decide (0 ≤ x4_1) = true := decide_eq_true c3
     clear c3
     by_cases c5 : (bt a0 x4_1) < 48
     ·rw [if_pos c5] at H
      have c5b0 : decide ((bt a0 x4_1) < 48) = true := decide_eq_true c5
      clear c5
      obtain rfl := Option.some.inj H
      have p4 : 0 ≤ (x4_1 : Int) := of_decide_eq_true (by first | (with_reducible assumption) | assumption)
      have q4 : x4_1 < (a0.size : Int) := of_decide_eq_true (by first | (with_reducible assumption) | assumption)
      have hx4 := bt_at a0 x4_1
      replace p4 := eq_true p4
      replace q4 := eq_true q4
      go_wp2
      go_ret
      exact ⟨by first | rfl | (simp; done) | (simp [*]; done), by repeat (first | exact Drawn0.refl _ | apply Drawn0.step)⟩
     ·rw [if_neg c5] at H
      have c5b0 : decide ((bt a0 x4_1) < 48) = false := decide_eq_false c5
      clear c5
      by_cases c7 : (bt a0 x4_1) > 57
      ·rw [if_pos c7] at H
       have c7b0 : decide (57 < (bt a0 x4_1)) = true := decide_eq_true c7
       clear c7
       obtain rfl := Option.some.inj H
       have p4 : 0 ≤ (x4_1 : Int) := of_decide_eq_true (by first | (with_reducible assumption) | assumption)
       have q4 : x4_1 < (a0.size : Int) := of_decide_eq_true (by first | (with_reducible assumption) | assumption)
       have hx4 := bt_at a0 x4_1
       replace p4 := eq_true p4
       replace q4 := eq_true q4
       have p6 : 0 ≤ (x4_1 : Int) := of_decide_eq_true (by first | (with_reducible assumption) | assumption)
       have q6 : x4_1 < (a0.size : Int) := of_decide_eq_true (by first | (with_reducible assumption) | assumption)
       have hx6 := bt_at a0 x4_1
       replace p6 := eq_true p6
       replace q6 := eq_true q6
       go_wp2
       go_ret
       exact ⟨by first | rfl | (simp; done) | (simp [*]; done), by repeat (first | exact Drawn0.refl _ | apply Drawn0.step)⟩
      ·rw [if_neg c7] at H
       have c7b0 : decide (57 < (bt a0 x4_1)) = false := decide_eq_false c7
       clear c7
       by_cases c8 : x3_1 > 1000000000
       ·rw [if_pos c8] at H
        have c8b0 : decide (1000000000 < x3_1) = true := decide_eq_true c8
        clear c8
        obtain rfl := Option.some.inj H
        have p4 : 0 ≤ (x4_1 : Int) := of_decide_eq_true (by first | (with_reducible assumption) | assumption)
        have q4 : x4_1 < (a0.size : Int) := of_decide_eq_true (by first | (with_reducible assumption) | assumption)
        have hx4 := bt_at a0 x4_1
        replace p4 := eq_true p4
        replace q4 := eq_true q4
        have p6 : 0 ≤ (x4_1 : Int) := of_decide_eq_true (by first | (with_reducible assumption) | assumption)
        have q6 : x4_1 < (a0.size : Int) := of_decide_eq_true (by first | (with_reducible assumption) | assumption)
        have hx6 := bt_at a0 x4_1
        replace p6 := eq_true p6
        replace q6 := eq_true q6
        go_wp2
        go_ret
        exact ⟨by first | rfl | (simp; done) | (simp [*]; done), by repeat (first | exact Drawn0.refl _ | apply Drawn0.step)⟩
       ·rw [if_neg c8] at H
        have c8b0 : decide (1000000000 < x3_1) = false := decide_eq_false c8
        clear c8
        have H' := Aside0.mk H
        clear H
        have p4 : 0 ≤ (x4_1 : Int) := of_decide_eq_true (by first | (with_reducible assumption) | assumption)
        have q4 : x4_1 < (a0.size : Int) := of_decide_eq_true (by first | (with_reducible assumption) | assumption)
        have hx4 := bt_at a0 x4_1
        replace p4 := eq_true p4
        replace q4 := eq_true q4
        have p6 : 0 ≤ (x4_1 : Int) := of_decide_eq_true (by first | (with_reducible assumption) | assumption)
        have q6 : x4_1 < (a0.size : Int) := of_decide_eq_true (by first | (with_reducible assumption) | assumption)
        have hx6 := bt_at a0 x4_1
        replace p6 := eq_true p6
        replace q6 := eq_true q6
        have p9 : 0 ≤ (x4_1 : Int) := of_decide_eq_true (by first | (with_reducible assumption) | assumption)
        have q9 : x4_1 < (a0.size : Int) := of_decide_eq_true (by first | (with_reducible assumption) | assumption)
        have hx9 := bt_at a0 x4_1
        replace p9 := eq_true p9
        replace q9 := eq_true q9
        go_wp2
        go_roundg k1
        case measure => have := HK1.out; omega
        case rel => exact ⟨(wrap64 ((wrap64 ((wrap64 (x3_1 * 10)) + (wrap64 (bt a0 x4_1)))) - 48)), (wrap64 (x4_1 + 1)), (by first | rfl | (simp; done) | (simp [*]; done)), (by first | rfl | (simp; done) | (simp [*]; done)), H', ⟨by have := HK1.out; omega⟩, by repeat (first | exact Drawn0.refl _ | apply Drawn0.step)⟩
    ·rw [if_neg c3] at H
     exact absurd H (by simp)
   ·rw [if_neg c2] at H
    have c2b0 : decide (x4_1 < (a0.size : Int)) = false := decide_eq_false c2
    clear c2
    obtain rfl := Option.some.inj H
    go_wp2
    go_ret
    exact ⟨by first | rfl | (simp; done) | (simp [*]; done), by repeat (first | exact Drawn0.refl _ | apply Drawn0.step)⟩
end Go.Proofs.YtaljjdodjimgdaaGreatDoor.P
namespace Go.Proofs.YtaljjdodjimgdaaGreatDoor.P
open Go.RowKit Go.Proofs.YtaljjdodjimgdaaGreatDoorW.PrintWords Go.Proofs.YtaljjdodjimgdaaGreatDoorW.PrintLast Go.Proofs.YtaljjdodjimgdaaGreatDoorW.PrintMore
def refNum : List UInt8 → Nat → Int
  | [], n => n
  | b :: l, n => if 48 ≤ b.toNat ∧ b.toNat ≤ 57 ∧ n ≤ 1000000000 then refNum l (n * 10 + (b.toNat - 48)) else -1
theorem refNum_loop (s : List UInt8) (hs : s.length ≤ 1000000) (d : Nat) : ∀ (i n : Nat), i + d = s.length → n ≤ 10000000009 →
    Ev (fun k => oculusref36_number.l0 k (mkS s) (n : Int) (i : Int)) (refNum (s.drop i) n) := by
  induction d with
  | zero =>
    intro i n hi hn
    refine ev_succ (fun k => oculusref36_number.l0.eq_2 ..) ?_
    rw [List.drop_eq_nil_of_le (by omega)]
    exact ev_neg (by rw [mkS_size]; omega) (ev_now _)
  | succ d ih =>
    intro i n hi hn
    have hl : i < s.length := by omega
    have hb : bt (mkS s) (i : Int) = (s[i].toNat : Int) := bt_get (mkS s) i hl
    refine ev_succ (fun k => oculusref36_number.l0.eq_2 ..) (ev_pos (by rw [mkS_size]; omega) (ev_pos (by omega) ?_))
    rw [List.drop_eq_getElem_cons hl]
    simp only [hb, refNum]
    generalize hx : s[i].toNat = x
    have hx2 : x < 256 := by rw [← hx]; exact (s[i]).toNat_lt
    by_cases h1 : x < 48
    · rw [if_neg (by omega)]
      exact ev_pos (by omega) (ev_now _)
    · refine ev_neg (by omega) ?_
      by_cases h2 : 57 < x
      · rw [if_neg (by omega)]
        exact ev_pos (by omega) (ev_now _)
      · refine ev_neg (by omega) ?_
        by_cases h3 : n ≤ 1000000000
        · rw [if_pos ⟨by omega, by omega, h3⟩]
          refine ev_neg (by omega) ?_
          have e1 : wrap64 ((wrap64 ((wrap64 ((n : Int) * 10)) + (wrap64 (x : Int)))) - 48) = ((n * 10 + (x - 48) : Nat) : Int) := by
            rw [w64 (x := (x : Int)) (by omega) (by omega), w64 (x := (n : Int) * 10) (by omega) (by omega), w64 (x := (n : Int) * 10 + (x : Int)) (by omega) (by omega), w64 (by omega) (by omega)]
            omega
          have e2 : wrap64 ((i : Int) + 1) = ((i + 1 : Nat) : Int) := by rw [w64] <;> omega
          simp only [e1, e2]
          exact ih (i + 1) (n * 10 + (x - 48)) (by omega) (by omega)
        · rw [if_neg (by omega)]
          exact ev_pos (by omega) (ev_now _)
theorem refNum_is (s : List UInt8) (hs : s.length ≤ 1000000) : Ev (fun k => oculusref36_number.f k (mkS s)) (refNum s 0) := by
  have := refNum_loop s hs s.length 0 0 (by omega) (by omega)
  rw [List.drop_zero] at this
  exact this
theorem refNum_append : ∀ (l : List UInt8) (b : UInt8) (n m : Nat), refNum l n = (m : Int) → 48 ≤ b.toNat → b.toNat ≤ 57 → m ≤ 1000000000 → refNum (l ++ [b]) n = ((m * 10 + (b.toNat - 48) : Nat) : Int)
  | [], b, n, m, h, h1, h2, h3 => by
    obtain rfl : n = m := by have : (n : Int) = m := h; omega
    show refNum [b] n = _
    unfold refNum
    rw [if_pos ⟨h1, h2, h3⟩]
    rfl
  | a :: l, b, n, m, h, h1, h2, h3 => by
    rw [List.cons_append]
    unfold refNum at h ⊢
    split at h
    · rename_i hc
      rw [if_pos hc]
      exact refNum_append l b _ m h h1 h2 h3
    · omega
theorem refNum_dec (n : Nat) (h : n ≤ 1000000000) : refNum (Lib.decDigits n) 0 = (n : Int) := by
  induction n using Nat.strongRecOn with
  | _ n ih =>
    by_cases hs : n < 10
    · have := dig_nat n hs
      rw [dec_small n hs]
      unfold refNum
      rw [if_pos ⟨by omega, by omega, by omega⟩, this]
      show ((0 * 10 + (48 + n - 48) : Nat) : Int) = n
      omega
    · have := dig_nat (n % 10) (by omega)
      rw [dec_big n hs, refNum_append _ _ 0 (n / 10) (ih (n / 10) (by omega) (by omega)) (by omega) (by omega) (by omega), this]
      omega
end Go.Proofs.YtaljjdodjimgdaaGreatDoor.P
