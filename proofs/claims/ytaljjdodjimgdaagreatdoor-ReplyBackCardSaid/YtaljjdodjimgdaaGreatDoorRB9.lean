/- WHAT IS TOLD OF ERRORS AND COSTS IS READ BACK, AND ONLY WHAT IS TOLD IS READ: of any error, any cost, and any text. -/
import Derived.Test.YtaljjdodjimgdaaGreatDoorRB8
namespace Go.Proofs.YtaljjdodjimgdaaGreatDoor.P
open Go.RowKit Go.Proofs.YtaljjdodjimgdaaGreatDoorW.PrintWords Go.Proofs.YtaljjdodjimgdaaGreatDoorW.PrintLast Go.Proofs.YtaljjdodjimgdaaGreatDoorW.PrintMore
theorem words_count : ∀ (l acc : List UInt8), (wordsFrom acc l).length = Lib.count l [32] + 1
  | [], acc => by rw [Lib.count_miss (by simp [Lib.index])]; rfl
  | b :: l, acc => by
    unfold wordsFrom
    by_cases hb : b = 32
    · subst hb
      rw [if_pos rfl, Lib.count_cons_eq, List.length_cons, words_count l []]
      omega
    · rw [if_neg hb, Lib.count_cons_ne b 32 l hb, words_count l _]
def wordsB (t : ByteArray) : List ByteArray := (wordsFrom [] t.data.toList).map mkS
theorem split_is (t : ByteArray) : Lib.splitB ⟨#[32]⟩ 0 (Lib.countB t ⟨#[32]⟩) t = wordsB t := by
  have h := Lib.splitB_data ⟨#[32]⟩ 0 (Lib.countB t ⟨#[32]⟩) t
  have h2 := split_words t.data.toList [] (by simp)
  rw [List.nil_append] at h2
  have h3 : (Lib.splitB ⟨#[32]⟩ 0 (Lib.countB t ⟨#[32]⟩) t).map (·.data.toList) = wordsFrom [] t.data.toList := h.trans h2
  unfold wordsB
  rw [← h3, List.map_map]
  exact (List.map_id _).symm
theorem split_call (t : ByteArray) (ht : t.size ≤ 1000000) (w : World) (hG : GInv w) : Calls Tryz.prog 36 #[.string t, .string ⟨#[32]⟩] w fun e w' => ∃ g, e = .returned (.slice (some ⟨g, 0, none⟩) (wordsB t).length (wordsB t).length) ∧ g = w.heap.size ∧ w'.heap[g]? = some (.cells ((wordsB t).map Value.string).toArray 9 (0, 0)) ∧ Below w.heap.size w w' := by
  obtain ⟨m, hm⟩ := hG.len
  refine (Tryz.strings_Split t ⟨#[32]⟩ m w (by omega) hm (by decide)).mono ?_
  rintro e w' ⟨rfl, rfl⟩
  have hl : Lib.countB t ⟨#[32]⟩ + 1 = (wordsB t).length := by
    unfold wordsB
    rw [List.length_map, words_count]
  rw [hl, split_is]
  exact ⟨w.heap.size, rfl, rfl, (MapKept.heap_alloc w _).1, below_alloc (Below.refl _ _) _⟩
noncomputable def dP (s : ByteArray) : Int × Bool := if h : s.data.toList.length ≤ 1000000 then (parse_ends s.data.toList h).choose else (0, false)
theorem dP_spec (s : ByteArray) (h : s.size ≤ 1000000) : Ev (fun k => digits_Parse.f k s) (dP s) ∧ -9223372036854775807 ≤ (dP s).1 ∧ (dP s).1 ≤ 9223372036854775807 := by
  have h' : s.data.toList.length ≤ 1000000 := by rw [← size_data]; exact h
  unfold dP
  rw [dif_pos h']
  have := (parse_ends s.data.toList h').choose_spec
  exact ⟨this.1, this.2.1, this.2.2.1⟩
theorem dP_call (s : ByteArray) (h : s.size ≤ 1000000) (w : World) (hG : GInv w) : Calls Tryz.prog 21 #[.string s] w fun e w' => e = .returned (.tuple #[.int .i64 (dP s).1, .bool (dP s).2]) ∧ Below w.heap.size w w' := by
  obtain ⟨K, hK⟩ := (dP_spec s h).1
  exact digits_Parse.calls K s _ _ w hG (hK K (Nat.le_refl K))
set_option maxRecDepth 100000 in
set_option maxHeartbeats 4000000 in
theorem cost_call (a b c d e0 : Int) (w : World) : Calls Tryz.prog 37 #[.agg #[.int .i64 a, .int .i64 b, .int .i64 c, .int .i64 d, .int .i64 e0]] w fun e w' => e = .returned (.agg #[.int .i64 a, .int .i64 b, .int .i64 c, .int .i64 d, .int .i64 e0]) ∧ Below w.heap.size w w' := by
  go_enter Tryz.func37, Tryz.ntmps37
  go_wp2
  refine bodyPost_ret (results_cell_row rfl _ _ (w.heap.size + 1) 23 #[.int .i64 a, .int .i64 b, .int .i64 c, .int .i64 d, .int .i64 e0] (0, 0) _ rfl ?hg Tryz.underlying23 rfl (by kernel_rfl)) rfl ?_
  case hg => exact (congrArg (fun n => (World.alloc (w.alloc (Obj.cells #[.int .i64 a, .int .i64 b, .int .i64 c, .int .i64 d, .int .i64 e0] 66)) _).heap[n]?) (show w.heap.size + 1 = (w.alloc (Obj.cells #[.int .i64 a, .int .i64 b, .int .i64 c, .int .i64 d, .int .i64 e0] 66)).heap.size from (Array.size_push _).symm)).trans (MapKept.heap_alloc _ _).1
  exact ⟨rfl, below_alloc (below_alloc (Below.refl _ _) _) _⟩
def okN (x : Int × Bool) : Prop := x.2 = true ∧ 0 ≤ x.1 ∧ x.1 % 10000 = 0
theorem meter_Text_f (a b c d e : Int) : meter_Text.f a b c d e = some (meterText [a, b, c, d, e]) := rfl
def mArr (l : List Int) (i : Nat) : Array Value := ((l.take i ++ List.replicate (5 - i) 0).map (Value.int .i64)).toArray
theorem words_from_len : ∀ (l acc : List UInt8), ∀ x ∈ wordsFrom acc l, x.length ≤ acc.length + l.length
  | [], acc, x, h => by
    simp only [wordsFrom, List.mem_singleton] at h
    subst h
    simp
  | b :: l, acc, x, h => by
    unfold wordsFrom at h
    split at h
    · rcases List.mem_cons.1 h with rfl | h
      · omega
      · have := words_from_len l [] x h
        simp at this ⊢
        omega
    · have := words_from_len l _ x h
      simp at this ⊢
      omega
theorem words_size (t : ByteArray) : ∀ x ∈ wordsB t, x.size ≤ t.size := fun x hx => by
  unfold wordsB at hx
  obtain ⟨y, hy, rfl⟩ := List.mem_map.1 hx
  have := words_from_len _ _ y hy
  rw [mkS_size, size_data]
  simpa using this
theorem split10 (t : ByteArray) (ht : t.size ≤ 1000000) (w : World) (hG : GInv w) (q0 q1 q2 q3 q4 q5 q6 q7 q8 q9 : ByteArray) (hq : wordsB t = [q0, q1, q2, q3, q4, q5, q6, q7, q8, q9]) : Calls Tryz.prog 36 #[.string t, .string ⟨#[32]⟩] w fun e w' => ∃ g, e = .returned (.slice (some ⟨g, 0, none⟩) 10 10) ∧ g = w.heap.size ∧ w'.heap[g]? = some (.cells #[.string q0, .string q1, .string q2, .string q3, .string q4, .string q5, .string q6, .string q7, .string q8, .string q9] 9 (0, 0)) ∧ Below w.heap.size w w' := by
  have h := split_call t ht w hG
  rw [hq] at h
  exact h
set_option maxRecDepth 100000 in
set_option maxHeartbeats 4000000 in
theorem mparse_walk (t : ByteArray) (ht : t.size ≤ 1000000) (w : World) (hG : GInv2 w) (r1 r2 r3 r4 r5 : Int) (r6 : Bool) (hlen : (wordsB t).length ≠ 10 → (r1, r2, r3, r4, r5, r6) = (0, 0, 0, 0, 0, false))
    (hbad : ∀ q0 q1 q2 q3 q4 q5 q6 q7 q8 q9, wordsB t = [q0, q1, q2, q3, q4, q5, q6, q7, q8, q9] → ¬ (∀ x ∈ [dP q1, dP q3, dP q5, dP q7, dP q9], okN x) → (r1, r2, r3, r4, r5, r6) = (0, 0, 0, 0, 0, false))
    (hne : ∀ q0 q1 q2 q3 q4 q5 q6 q7 q8 q9, wordsB t = [q0, q1, q2, q3, q4, q5, q6, q7, q8, q9] → (∀ x ∈ [dP q1, dP q3, dP q5, dP q7, dP q9], okN x) → meterText [(dP q1).1 / 10000, (dP q3).1 / 10000, (dP q5).1 / 10000, (dP q7).1 / 10000, (dP q9).1 / 10000] ≠ t → (r1, r2, r3, r4, r5, r6) = (0, 0, 0, 0, 0, false))
    (heq : ∀ q0 q1 q2 q3 q4 q5 q6 q7 q8 q9, wordsB t = [q0, q1, q2, q3, q4, q5, q6, q7, q8, q9] → (∀ x ∈ [dP q1, dP q3, dP q5, dP q7, dP q9], okN x) → meterText [(dP q1).1 / 10000, (dP q3).1 / 10000, (dP q5).1 / 10000, (dP q7).1 / 10000, (dP q9).1 / 10000] = t → (r1, r2, r3, r4, r5, r6) = ((dP q1).1 / 10000, (dP q3).1 / 10000, (dP q5).1 / 10000, (dP q7).1 / 10000, (dP q9).1 / 10000, true)) :
    Calls Tryz.prog 24 #[.string t] w fun e w' => e = .returned (.tuple #[.agg #[.int .i64 r1, .int .i64 r2, .int .i64 r3, .int .i64 r4, .int .i64 r5], .bool r6]) ∧ Below w.heap.size w w' := by
  have huC := Tryz.underlying23
  have hu5 := Tryz.underlying66
  have HG := Aside0.mk hG
  clear hG
  have HB := Aside0.mk (Below.refl w.heap.size w)
  by_cases hl : (wordsB t).length = 10
  · obtain ⟨q0, q1, q2, q3, q4, q5, q6, q7, q8, q9, hq⟩ : ∃ q0 q1 q2 q3 q4 q5 q6 q7 q8 q9, wordsB t = [q0, q1, q2, q3, q4, q5, q6, q7, q8, q9] := by
      match wordsB t, hl with
      | [q0, q1, q2, q3, q4, q5, q6, q7, q8, q9], _ => exact ⟨_, _, _, _, _, _, _, _, _, _, rfl⟩
    have HBAD := Aside0.mk (hbad q0 q1 q2 q3 q4 q5 q6 q7 q8 q9 hq)
    have HNE := Aside0.mk (hne q0 q1 q2 q3 q4 q5 q6 q7 q8 q9 hq)
    have HEQ := Aside0.mk (heq q0 q1 q2 q3 q4 q5 q6 q7 q8 q9 hq)
    have HQ := Aside0.mk hq
    have HS : ∀ x ∈ [q0, q1, q2, q3, q4, q5, q6, q7, q8, q9], x.size ≤ 1000000 := fun x hx => by
      rw [← hq] at hx
      have := words_size t x hx
      omega
    have HSZ := Aside0.mk HS
    clear hlen hbad hne heq hq hl HS
    go_enter Tryz.func24, Tryz.ntmps24
    go_wp2_with (first
      | ((with_reducible refine gate_dst (N := 2) rfl ?_); refine box_event ?hg (N := 2) ?hd (cs := #[.int .i64 0, .int .i64 0, .int .i64 0, .int .i64 0, .int .i64 0]) (t := 23) ?hr ?_; (case hd => rfl); (case hg => rfl); (case hr => first | (go_simp; done) | (go_simp; rfl)); intro gR hg w5 hbox hb; have GR := Aside0.mk (show w.heap.size ≤ gR by rw [hg]; exact below_size (by repeat (first | (with_reducible first | exact HB.out | apply below_alloc | apply pw_below_drewN | apply below_drew1) | exact HB.out))); have BR := Aside0.mk hbox; have n0_ := Aside0.mk (below_step (by repeat (first | (with_reducible first | exact HB.out | apply below_alloc | apply pw_below_drewN | apply below_drew1) | exact HB.out)) hb); clear HB; have HB := n0_; clear n0_ hb hbox hg)
      | ((with_reducible refine gate_dst (N := 4) rfl ?_); refine box_event ?hg (N := 4) ?hd (cs := #[.int .i64 0, .int .i64 0, .int .i64 0, .int .i64 0, .int .i64 0]) (t := 66) ?hr ?_; (case hd => rfl); (case hg => rfl); (case hr => first | (go_simp; done) | (go_simp; rfl)); intro gB hg w7 hbox hb; have GB := Aside0.mk (show w.heap.size ≤ gB by rw [hg]; exact below_size (by repeat (first | (with_reducible first | exact HB.out | apply below_alloc | apply pw_below_drewN | apply below_drew1 | refine below_set ?_ GR.out) | exact HB.out))); have NE := Aside0.mk (show gB ≠ gR by rw [hg]; exact Nat.ne_of_gt (blk_lt BR.out)); have n1_ := Aside0.mk (blk_below (g := gR) (o := .cells #[.int .i64 0, .int .i64 0, .int .i64 0, .int .i64 0, .int .i64 0] 23 (0, 0)) (by (with_reducible repeat (first | refine blk_drewN ?_ _ | refine blk_drew ?_ | refine blk_alloc ?_ _)); exact BR.out) hb); have BB := Aside0.mk hbox; have n0_ := Aside0.mk (below_step (by repeat (first | (with_reducible first | exact HB.out | apply below_alloc | apply pw_below_drewN | apply below_drew1 | refine below_set ?_ GR.out) | exact HB.out)) hb); clear HB BR; have HB := n0_; have BR := n1_; clear n0_ n1_ hb hbox hg)
      | (go_at_call 36; (with_reducible refine (split10 t ht _ (GInv2.below HG.out (by repeat (first | (with_reducible first | exact HB.out | apply below_alloc | apply pw_below_drewN | apply below_drew1 | refine below_set ?_ GB.out | refine below_set ?_ GR.out) | exact HB.out | refine below_set ?_ GB.out | refine below_set ?_ GR.out))).one q0 q1 q2 q3 q4 q5 q6 q7 q8 q9 HQ.out).mono ?_); rintro e w6 ⟨gF, rfl, hgF, hbF, hb⟩; have n1_ := Aside0.mk (blk_below (g := gR) (o := .cells #[.int .i64 0, .int .i64 0, .int .i64 0, .int .i64 0, .int .i64 0] 23 (0, 0)) (by (with_reducible repeat (first | refine blk_drewN ?_ _ | refine blk_drew ?_ | refine blk_alloc ?_ _)); exact BR.out) hb); have n2_ := Aside0.mk (blk_below (g := gB) (o := .cells #[.int .i64 0, .int .i64 0, .int .i64 0, .int .i64 0, .int .i64 0] 66 (0, 0)) (by (with_reducible repeat (first | refine blk_drewN ?_ _ | refine blk_drew ?_ | refine blk_alloc ?_ _)); exact BB.out) hb); have n0_ := Aside0.mk (below_step (by repeat (first | (with_reducible first | exact HB.out | apply below_alloc | apply pw_below_drewN | apply below_drew1 | refine below_set ?_ GB.out | refine below_set ?_ GR.out) | exact HB.out | refine below_set ?_ GB.out | refine below_set ?_ GR.out)) hb); clear HB BR BB; have HB := n0_; have BR := n1_; have BB := n2_; have BF := Aside0.mk hbF; have NF := Aside0.mk (show gB ≠ gF by intro e; subst e; have h1 := BF.out; rw [BB.out] at h1; simp at h1); clear n0_ n1_ n2_ hb hbF hgF))
    go_loopg [16] 5 (fun kq v16 w' => ∃ i : Nat, v16 = .int .i64 (i : Int) ∧ Aside0 (i + kq = 5) ∧ Aside0 (∀ x ∈ ([dP q1, dP q3, dP q5, dP q7, dP q9]).take i, okN x) ∧ Aside0 (w'.heap[gR]? = some (.cells #[.int .i64 0, .int .i64 0, .int .i64 0, .int .i64 0, .int .i64 0] 23 (0, 0))) ∧ Aside0 (w'.heap[gB]? = some (.cells (mArr [(dP q1).1 / 10000, (dP q3).1 / 10000, (dP q5).1 / 10000, (dP q7).1 / 10000, (dP q9).1 / 10000] i) 66 (0, 0))) ∧ Aside0 (w'.heap[gF]? = some (.cells #[.string q0, .string q1, .string q2, .string q3, .string q4, .string q5, .string q6, .string q7, .string q8, .string q9] 9 (0, 0))) ∧ Aside0 (Below w.heap.size w w'))
    case atStart => exact ⟨0, rfl, ⟨rfl⟩, ⟨fun n hn => by cases hn⟩, BR, BB, BF, ⟨(by repeat (first | (with_reducible first | exact HB.out | apply below_alloc | apply pw_below_drewN | apply below_drew1 | refine below_set ?_ GB.out | refine below_set ?_ GR.out) | exact HB.out | refine below_set ?_ GB.out | refine below_set ?_ GR.out))⟩⟩
    case round =>
      obtain ⟨i, rfl, hi, HI, BR, BB, BF, HB⟩ := hrel
      have hi0 := hi.out
      rcases (show i = 0 ∨ i = 1 ∨ i = 2 ∨ i = 3 ∨ i = 4 ∨ i = 5 by omega) with rfl | rfl | rfl | rfl | rfl | rfl
      · have hF : wr.cell? ⟨gF, 1, none⟩ = some (.string q1) := (blk_cell BF.out 1).trans rfl
        have h00 : -9223372036854775807 ≤ (dP q1).1 := (dP_spec q1 (HSZ.out q1 (by simp))).2.1
        have h01 : (dP q1).1 ≤ 9223372036854775807 := (dP_spec q1 (HSZ.out q1 (by simp))).2.2
        by_cases hB : (dP q1).2 = true
        · by_cases hneg : (dP q1).1 < 0
          · have c0 : decide ((dP q1).1 < 0) = true := decide_eq_true hneg
            have hz := HBAD.out (fun h => by have := (h (dP q1) (by simp)).2.1; omega)
            simp only [Prod.mk.injEq] at hz
            obtain ⟨rfl, rfl, rfl, rfl, rfl, rfl⟩ := hz
            clear h00 h01
            go_wp2_with (first | (go_at_call 21; (with_reducible refine (dP_call q1 (HSZ.out q1 (by simp)) _ (GInv2.below HG.out (by repeat (first | (with_reducible first | exact HB.out | apply below_alloc | apply pw_below_drewN | apply below_drew1 | refine below_set ?_ GB.out | refine below_set ?_ GR.out) | exact HB.out | refine below_set ?_ GB.out | refine below_set ?_ GR.out))).one).mono ?_); rintro e w8 ⟨rfl, hb⟩; have n1_ := Aside0.mk (blk_below (g := gR) (o := .cells #[.int .i64 0, .int .i64 0, .int .i64 0, .int .i64 0, .int .i64 0] 23 (0, 0)) (by (with_reducible repeat (first | refine blk_drewN ?_ _ | refine blk_drew ?_ | refine blk_alloc ?_ _)); exact BR.out) hb); have n2_ := Aside0.mk (blk_below (g := gB) (o := .cells (mArr [(dP q1).1 / 10000, (dP q3).1 / 10000, (dP q5).1 / 10000, (dP q7).1 / 10000, (dP q9).1 / 10000] 0) 66 (0, 0)) (by (with_reducible repeat (first | refine blk_drewN ?_ _ | refine blk_drew ?_ | refine blk_alloc ?_ _)); exact BB.out) hb); have n3_ := Aside0.mk (blk_below (g := gF) (o := .cells #[.string q0, .string q1, .string q2, .string q3, .string q4, .string q5, .string q6, .string q7, .string q8, .string q9] 9 (0, 0)) (by (with_reducible repeat (first | refine blk_drewN ?_ _ | refine blk_drew ?_ | refine blk_alloc ?_ _)); exact BF.out) hb); have n0_ := Aside0.mk (below_step (by repeat (first | (with_reducible first | exact HB.out | apply below_alloc | apply pw_below_drewN | apply below_drew1 | refine below_set ?_ GB.out | refine below_set ?_ GR.out) | exact HB.out | refine below_set ?_ GB.out | refine below_set ?_ GR.out)) hb); clear HB BR BB BF; have HB := n0_; have BR := n1_; have BB := n2_; have BF := n3_; clear n0_ n1_ n2_ n3_ hb; (try clear hF); have hz0 : w8.cell? ⟨gR, 0, none⟩ = some (.int .i64 0) := (blk_cell BR.out 0).trans rfl; have hfz0 : w8.frozen? ⟨gR, 0, none⟩ = false := blk_frozen BR.out 0; have hz1 : w8.cell? ⟨gR, 1, none⟩ = some (.int .i64 0) := (blk_cell BR.out 1).trans rfl; have hfz1 : w8.frozen? ⟨gR, 1, none⟩ = false := blk_frozen BR.out 1; have hz2 : w8.cell? ⟨gR, 2, none⟩ = some (.int .i64 0) := (blk_cell BR.out 2).trans rfl; have hfz2 : w8.frozen? ⟨gR, 2, none⟩ = false := blk_frozen BR.out 2; have hz3 : w8.cell? ⟨gR, 3, none⟩ = some (.int .i64 0) := (blk_cell BR.out 3).trans rfl; have hfz3 : w8.frozen? ⟨gR, 3, none⟩ = false := blk_frozen BR.out 3; have hz4 : w8.cell? ⟨gR, 4, none⟩ = some (.int .i64 0) := (blk_cell BR.out 4).trans rfl; have hfz4 : w8.frozen? ⟨gR, 4, none⟩ = false := blk_frozen BR.out 4; have hy0 : w8.cell? ⟨gB, 0, none⟩ = some (.int .i64 0) := (blk_cell BB.out 0).trans rfl; have hfy0 : w8.frozen? ⟨gB, 0, none⟩ = false := blk_frozen BB.out 0; have hy1 : w8.cell? ⟨gB, 1, none⟩ = some (.int .i64 0) := (blk_cell BB.out 1).trans rfl; have hfy1 : w8.frozen? ⟨gB, 1, none⟩ = false := blk_frozen BB.out 1; have hy2 : w8.cell? ⟨gB, 2, none⟩ = some (.int .i64 0) := (blk_cell BB.out 2).trans rfl; have hfy2 : w8.frozen? ⟨gB, 2, none⟩ = false := blk_frozen BB.out 2; have hy3 : w8.cell? ⟨gB, 3, none⟩ = some (.int .i64 0) := (blk_cell BB.out 3).trans rfl; have hfy3 : w8.frozen? ⟨gB, 3, none⟩ = false := blk_frozen BB.out 3; have hy4 : w8.cell? ⟨gB, 4, none⟩ = some (.int .i64 0) := (blk_cell BB.out 4).trans rfl; have hfy4 : w8.frozen? ⟨gB, 4, none⟩ = false := blk_frozen BB.out 4))
            refine bodyPost_ret (results_ct rfl _ _ gR 23 #[.int .i64 0, .int .i64 0, .int .i64 0, .int .i64 0, .int .i64 0] (0, 0) _ rfl (by (with_reducible repeat (first | refine blk_drewN ?_ _ | refine blk_drew ?_ | refine blk_alloc ?_ _)); refine blk_put (cs := #[.int .i64 0, .int .i64 0, .int .i64 0, .int .i64 0, .int .i64 0]) ?_ 4 _ rfl; (with_reducible repeat (first | refine blk_drewN ?_ _ | refine blk_drew ?_ | refine blk_alloc ?_ _)); refine blk_put (cs := #[.int .i64 0, .int .i64 0, .int .i64 0, .int .i64 0, .int .i64 0]) ?_ 3 _ rfl; (with_reducible repeat (first | refine blk_drewN ?_ _ | refine blk_drew ?_ | refine blk_alloc ?_ _)); refine blk_put (cs := #[.int .i64 0, .int .i64 0, .int .i64 0, .int .i64 0, .int .i64 0]) ?_ 2 _ rfl; (with_reducible repeat (first | refine blk_drewN ?_ _ | refine blk_drew ?_ | refine blk_alloc ?_ _)); refine blk_put (cs := #[.int .i64 0, .int .i64 0, .int .i64 0, .int .i64 0, .int .i64 0]) ?_ 1 _ rfl; (with_reducible repeat (first | refine blk_drewN ?_ _ | refine blk_drew ?_ | refine blk_alloc ?_ _)); refine blk_put (cs := #[.int .i64 0, .int .i64 0, .int .i64 0, .int .i64 0, .int .i64 0]) ?_ 0 _ rfl; (with_reducible repeat (first | refine blk_drewN ?_ _ | refine blk_drew ?_ | refine blk_alloc ?_ _)); exact BR.out) Tryz.underlying23 rfl (by kernel_rfl)) rfl ?_
            exact ⟨rfl, (by repeat (first | (with_reducible first | exact HB.out | apply below_alloc | apply pw_below_drewN | apply below_drew1 | refine below_set ?_ GR.out) | exact HB.out))⟩
          · have c0 : decide ((dP q1).1 < 0) = false := decide_eq_false hneg
            have c1 : Int.tmod (dP q1).1 10000 = (dP q1).1 % 10000 := tmd (by omega)
            by_cases hrem : (dP q1).1 % 10000 = 0
            · have c2 : ((dP q1).1 % 10000 != 0) = false := bne_eq_false_iff_eq.mpr hrem
              have c3 : Int.tdiv (dP q1).1 10000 = (dP q1).1 / 10000 := tdv (by omega)
              have c4 : wrap64 ((dP q1).1 / 10000) = (dP q1).1 / 10000 := w64_ (by omega) (by omega)
              have HO := Aside0.mk (show okN (dP q1) from ⟨hB, by omega, hrem⟩)
              clear h00 h01 hneg hrem
              go_wp2_with (first | (go_at_call 21; (with_reducible refine (dP_call q1 (HSZ.out q1 (by simp)) _ (GInv2.below HG.out (by repeat (first | (with_reducible first | exact HB.out | apply below_alloc | apply pw_below_drewN | apply below_drew1 | refine below_set ?_ GB.out | refine below_set ?_ GR.out) | exact HB.out | refine below_set ?_ GB.out | refine below_set ?_ GR.out))).one).mono ?_); rintro e w8 ⟨rfl, hb⟩; have n1_ := Aside0.mk (blk_below (g := gR) (o := .cells #[.int .i64 0, .int .i64 0, .int .i64 0, .int .i64 0, .int .i64 0] 23 (0, 0)) (by (with_reducible repeat (first | refine blk_drewN ?_ _ | refine blk_drew ?_ | refine blk_alloc ?_ _)); exact BR.out) hb); have n2_ := Aside0.mk (blk_below (g := gB) (o := .cells (mArr [(dP q1).1 / 10000, (dP q3).1 / 10000, (dP q5).1 / 10000, (dP q7).1 / 10000, (dP q9).1 / 10000] 0) 66 (0, 0)) (by (with_reducible repeat (first | refine blk_drewN ?_ _ | refine blk_drew ?_ | refine blk_alloc ?_ _)); exact BB.out) hb); have n3_ := Aside0.mk (blk_below (g := gF) (o := .cells #[.string q0, .string q1, .string q2, .string q3, .string q4, .string q5, .string q6, .string q7, .string q8, .string q9] 9 (0, 0)) (by (with_reducible repeat (first | refine blk_drewN ?_ _ | refine blk_drew ?_ | refine blk_alloc ?_ _)); exact BF.out) hb); have n0_ := Aside0.mk (below_step (by repeat (first | (with_reducible first | exact HB.out | apply below_alloc | apply pw_below_drewN | apply below_drew1 | refine below_set ?_ GB.out | refine below_set ?_ GR.out) | exact HB.out | refine below_set ?_ GB.out | refine below_set ?_ GR.out)) hb); clear HB BR BB BF; have HB := n0_; have BR := n1_; have BB := n2_; have BF := n3_; clear n0_ n1_ n2_ n3_ hb; (try clear hF); have hz0 : w8.cell? ⟨gR, 0, none⟩ = some (.int .i64 0) := (blk_cell BR.out 0).trans rfl; have hfz0 : w8.frozen? ⟨gR, 0, none⟩ = false := blk_frozen BR.out 0; have hz1 : w8.cell? ⟨gR, 1, none⟩ = some (.int .i64 0) := (blk_cell BR.out 1).trans rfl; have hfz1 : w8.frozen? ⟨gR, 1, none⟩ = false := blk_frozen BR.out 1; have hz2 : w8.cell? ⟨gR, 2, none⟩ = some (.int .i64 0) := (blk_cell BR.out 2).trans rfl; have hfz2 : w8.frozen? ⟨gR, 2, none⟩ = false := blk_frozen BR.out 2; have hz3 : w8.cell? ⟨gR, 3, none⟩ = some (.int .i64 0) := (blk_cell BR.out 3).trans rfl; have hfz3 : w8.frozen? ⟨gR, 3, none⟩ = false := blk_frozen BR.out 3; have hz4 : w8.cell? ⟨gR, 4, none⟩ = some (.int .i64 0) := (blk_cell BR.out 4).trans rfl; have hfz4 : w8.frozen? ⟨gR, 4, none⟩ = false := blk_frozen BR.out 4; have hy0 : w8.cell? ⟨gB, 0, none⟩ = some (.int .i64 0) := (blk_cell BB.out 0).trans rfl; have hfy0 : w8.frozen? ⟨gB, 0, none⟩ = false := blk_frozen BB.out 0; have hy1 : w8.cell? ⟨gB, 1, none⟩ = some (.int .i64 0) := (blk_cell BB.out 1).trans rfl; have hfy1 : w8.frozen? ⟨gB, 1, none⟩ = false := blk_frozen BB.out 1; have hy2 : w8.cell? ⟨gB, 2, none⟩ = some (.int .i64 0) := (blk_cell BB.out 2).trans rfl; have hfy2 : w8.frozen? ⟨gB, 2, none⟩ = false := blk_frozen BB.out 2; have hy3 : w8.cell? ⟨gB, 3, none⟩ = some (.int .i64 0) := (blk_cell BB.out 3).trans rfl; have hfy3 : w8.frozen? ⟨gB, 3, none⟩ = false := blk_frozen BB.out 3; have hy4 : w8.cell? ⟨gB, 4, none⟩ = some (.int .i64 0) := (blk_cell BB.out 4).trans rfl; have hfy4 : w8.frozen? ⟨gB, 4, none⟩ = false := blk_frozen BB.out 4))
              go_roundg 4
              case measure => omega
              case rel => exact ⟨1, (by first | rfl | (simp; done)), ⟨by omega⟩, ⟨fun x hx => by
                have h2 : x ∈ ([dP q1, dP q3, dP q5, dP q7, dP q9]).take 0 ++ [dP q1] := hx
                rcases List.mem_append.1 h2 with h3 | h3
                · exact HI.out x h3
                · rw [List.mem_singleton.1 h3]; exact HO.out⟩, ⟨by (with_reducible repeat (first | refine blk_drewN ?_ _ | refine blk_drew ?_ | refine blk_alloc ?_ _)); refine blk_far ?_ (fun e => NE.out e.symm) _; (with_reducible repeat (first | refine blk_drewN ?_ _ | refine blk_drew ?_ | refine blk_alloc ?_ _)); exact BR.out⟩, ⟨by (with_reducible repeat (first | refine blk_drewN ?_ _ | refine blk_drew ?_ | refine blk_alloc ?_ _)); refine blk_put (cs := mArr [(dP q1).1 / 10000, (dP q3).1 / 10000, (dP q5).1 / 10000, (dP q7).1 / 10000, (dP q9).1 / 10000] 0) ?_ 0 _ rfl; (with_reducible repeat (first | refine blk_drewN ?_ _ | refine blk_drew ?_ | refine blk_alloc ?_ _)); exact BB.out⟩, ⟨by (with_reducible repeat (first | refine blk_drewN ?_ _ | refine blk_drew ?_ | refine blk_alloc ?_ _)); refine blk_far ?_ (fun e => NF.out e.symm) _; (with_reducible repeat (first | refine blk_drewN ?_ _ | refine blk_drew ?_ | refine blk_alloc ?_ _)); exact BF.out⟩, ⟨(by repeat (first | (with_reducible first | exact HB.out | apply below_alloc | apply pw_below_drewN | apply below_drew1 | refine below_set ?_ GB.out | refine below_set ?_ GR.out) | exact HB.out | refine below_set ?_ GB.out | refine below_set ?_ GR.out))⟩⟩
            · have c2 : ((dP q1).1 % 10000 != 0) = true := bne_iff_ne.mpr hrem
              have hz := HBAD.out (fun h => by exact hrem (h (dP q1) (by simp)).2.2)
              simp only [Prod.mk.injEq] at hz
              obtain ⟨rfl, rfl, rfl, rfl, rfl, rfl⟩ := hz
              clear h00 h01
              go_wp2_with (first | (go_at_call 21; (with_reducible refine (dP_call q1 (HSZ.out q1 (by simp)) _ (GInv2.below HG.out (by repeat (first | (with_reducible first | exact HB.out | apply below_alloc | apply pw_below_drewN | apply below_drew1 | refine below_set ?_ GB.out | refine below_set ?_ GR.out) | exact HB.out | refine below_set ?_ GB.out | refine below_set ?_ GR.out))).one).mono ?_); rintro e w8 ⟨rfl, hb⟩; have n1_ := Aside0.mk (blk_below (g := gR) (o := .cells #[.int .i64 0, .int .i64 0, .int .i64 0, .int .i64 0, .int .i64 0] 23 (0, 0)) (by (with_reducible repeat (first | refine blk_drewN ?_ _ | refine blk_drew ?_ | refine blk_alloc ?_ _)); exact BR.out) hb); have n2_ := Aside0.mk (blk_below (g := gB) (o := .cells (mArr [(dP q1).1 / 10000, (dP q3).1 / 10000, (dP q5).1 / 10000, (dP q7).1 / 10000, (dP q9).1 / 10000] 0) 66 (0, 0)) (by (with_reducible repeat (first | refine blk_drewN ?_ _ | refine blk_drew ?_ | refine blk_alloc ?_ _)); exact BB.out) hb); have n3_ := Aside0.mk (blk_below (g := gF) (o := .cells #[.string q0, .string q1, .string q2, .string q3, .string q4, .string q5, .string q6, .string q7, .string q8, .string q9] 9 (0, 0)) (by (with_reducible repeat (first | refine blk_drewN ?_ _ | refine blk_drew ?_ | refine blk_alloc ?_ _)); exact BF.out) hb); have n0_ := Aside0.mk (below_step (by repeat (first | (with_reducible first | exact HB.out | apply below_alloc | apply pw_below_drewN | apply below_drew1 | refine below_set ?_ GB.out | refine below_set ?_ GR.out) | exact HB.out | refine below_set ?_ GB.out | refine below_set ?_ GR.out)) hb); clear HB BR BB BF; have HB := n0_; have BR := n1_; have BB := n2_; have BF := n3_; clear n0_ n1_ n2_ n3_ hb; (try clear hF); have hz0 : w8.cell? ⟨gR, 0, none⟩ = some (.int .i64 0) := (blk_cell BR.out 0).trans rfl; have hfz0 : w8.frozen? ⟨gR, 0, none⟩ = false := blk_frozen BR.out 0; have hz1 : w8.cell? ⟨gR, 1, none⟩ = some (.int .i64 0) := (blk_cell BR.out 1).trans rfl; have hfz1 : w8.frozen? ⟨gR, 1, none⟩ = false := blk_frozen BR.out 1; have hz2 : w8.cell? ⟨gR, 2, none⟩ = some (.int .i64 0) := (blk_cell BR.out 2).trans rfl; have hfz2 : w8.frozen? ⟨gR, 2, none⟩ = false := blk_frozen BR.out 2; have hz3 : w8.cell? ⟨gR, 3, none⟩ = some (.int .i64 0) := (blk_cell BR.out 3).trans rfl; have hfz3 : w8.frozen? ⟨gR, 3, none⟩ = false := blk_frozen BR.out 3; have hz4 : w8.cell? ⟨gR, 4, none⟩ = some (.int .i64 0) := (blk_cell BR.out 4).trans rfl; have hfz4 : w8.frozen? ⟨gR, 4, none⟩ = false := blk_frozen BR.out 4; have hy0 : w8.cell? ⟨gB, 0, none⟩ = some (.int .i64 0) := (blk_cell BB.out 0).trans rfl; have hfy0 : w8.frozen? ⟨gB, 0, none⟩ = false := blk_frozen BB.out 0; have hy1 : w8.cell? ⟨gB, 1, none⟩ = some (.int .i64 0) := (blk_cell BB.out 1).trans rfl; have hfy1 : w8.frozen? ⟨gB, 1, none⟩ = false := blk_frozen BB.out 1; have hy2 : w8.cell? ⟨gB, 2, none⟩ = some (.int .i64 0) := (blk_cell BB.out 2).trans rfl; have hfy2 : w8.frozen? ⟨gB, 2, none⟩ = false := blk_frozen BB.out 2; have hy3 : w8.cell? ⟨gB, 3, none⟩ = some (.int .i64 0) := (blk_cell BB.out 3).trans rfl; have hfy3 : w8.frozen? ⟨gB, 3, none⟩ = false := blk_frozen BB.out 3; have hy4 : w8.cell? ⟨gB, 4, none⟩ = some (.int .i64 0) := (blk_cell BB.out 4).trans rfl; have hfy4 : w8.frozen? ⟨gB, 4, none⟩ = false := blk_frozen BB.out 4))
              refine bodyPost_ret (results_ct rfl _ _ gR 23 #[.int .i64 0, .int .i64 0, .int .i64 0, .int .i64 0, .int .i64 0] (0, 0) _ rfl (by (with_reducible repeat (first | refine blk_drewN ?_ _ | refine blk_drew ?_ | refine blk_alloc ?_ _)); refine blk_put (cs := #[.int .i64 0, .int .i64 0, .int .i64 0, .int .i64 0, .int .i64 0]) ?_ 4 _ rfl; (with_reducible repeat (first | refine blk_drewN ?_ _ | refine blk_drew ?_ | refine blk_alloc ?_ _)); refine blk_put (cs := #[.int .i64 0, .int .i64 0, .int .i64 0, .int .i64 0, .int .i64 0]) ?_ 3 _ rfl; (with_reducible repeat (first | refine blk_drewN ?_ _ | refine blk_drew ?_ | refine blk_alloc ?_ _)); refine blk_put (cs := #[.int .i64 0, .int .i64 0, .int .i64 0, .int .i64 0, .int .i64 0]) ?_ 2 _ rfl; (with_reducible repeat (first | refine blk_drewN ?_ _ | refine blk_drew ?_ | refine blk_alloc ?_ _)); refine blk_put (cs := #[.int .i64 0, .int .i64 0, .int .i64 0, .int .i64 0, .int .i64 0]) ?_ 1 _ rfl; (with_reducible repeat (first | refine blk_drewN ?_ _ | refine blk_drew ?_ | refine blk_alloc ?_ _)); refine blk_put (cs := #[.int .i64 0, .int .i64 0, .int .i64 0, .int .i64 0, .int .i64 0]) ?_ 0 _ rfl; (with_reducible repeat (first | refine blk_drewN ?_ _ | refine blk_drew ?_ | refine blk_alloc ?_ _)); exact BR.out) Tryz.underlying23 rfl (by kernel_rfl)) rfl ?_
              exact ⟨rfl, (by repeat (first | (with_reducible first | exact HB.out | apply below_alloc | apply pw_below_drewN | apply below_drew1 | refine below_set ?_ GR.out) | exact HB.out))⟩
        · replace hB : (dP q1).2 = false := Bool.eq_false_iff.mpr hB
          have hz := HBAD.out (fun h => by have := (h (dP q1) (by simp)).1; rw [hB] at this; cases this)
          simp only [Prod.mk.injEq] at hz
          obtain ⟨rfl, rfl, rfl, rfl, rfl, rfl⟩ := hz
          clear h00 h01
          go_wp2_with (first | (go_at_call 21; (with_reducible refine (dP_call q1 (HSZ.out q1 (by simp)) _ (GInv2.below HG.out (by repeat (first | (with_reducible first | exact HB.out | apply below_alloc | apply pw_below_drewN | apply below_drew1 | refine below_set ?_ GB.out | refine below_set ?_ GR.out) | exact HB.out | refine below_set ?_ GB.out | refine below_set ?_ GR.out))).one).mono ?_); rintro e w8 ⟨rfl, hb⟩; have n1_ := Aside0.mk (blk_below (g := gR) (o := .cells #[.int .i64 0, .int .i64 0, .int .i64 0, .int .i64 0, .int .i64 0] 23 (0, 0)) (by (with_reducible repeat (first | refine blk_drewN ?_ _ | refine blk_drew ?_ | refine blk_alloc ?_ _)); exact BR.out) hb); have n2_ := Aside0.mk (blk_below (g := gB) (o := .cells (mArr [(dP q1).1 / 10000, (dP q3).1 / 10000, (dP q5).1 / 10000, (dP q7).1 / 10000, (dP q9).1 / 10000] 0) 66 (0, 0)) (by (with_reducible repeat (first | refine blk_drewN ?_ _ | refine blk_drew ?_ | refine blk_alloc ?_ _)); exact BB.out) hb); have n3_ := Aside0.mk (blk_below (g := gF) (o := .cells #[.string q0, .string q1, .string q2, .string q3, .string q4, .string q5, .string q6, .string q7, .string q8, .string q9] 9 (0, 0)) (by (with_reducible repeat (first | refine blk_drewN ?_ _ | refine blk_drew ?_ | refine blk_alloc ?_ _)); exact BF.out) hb); have n0_ := Aside0.mk (below_step (by repeat (first | (with_reducible first | exact HB.out | apply below_alloc | apply pw_below_drewN | apply below_drew1 | refine below_set ?_ GB.out | refine below_set ?_ GR.out) | exact HB.out | refine below_set ?_ GB.out | refine below_set ?_ GR.out)) hb); clear HB BR BB BF; have HB := n0_; have BR := n1_; have BB := n2_; have BF := n3_; clear n0_ n1_ n2_ n3_ hb; (try clear hF); have hz0 : w8.cell? ⟨gR, 0, none⟩ = some (.int .i64 0) := (blk_cell BR.out 0).trans rfl; have hfz0 : w8.frozen? ⟨gR, 0, none⟩ = false := blk_frozen BR.out 0; have hz1 : w8.cell? ⟨gR, 1, none⟩ = some (.int .i64 0) := (blk_cell BR.out 1).trans rfl; have hfz1 : w8.frozen? ⟨gR, 1, none⟩ = false := blk_frozen BR.out 1; have hz2 : w8.cell? ⟨gR, 2, none⟩ = some (.int .i64 0) := (blk_cell BR.out 2).trans rfl; have hfz2 : w8.frozen? ⟨gR, 2, none⟩ = false := blk_frozen BR.out 2; have hz3 : w8.cell? ⟨gR, 3, none⟩ = some (.int .i64 0) := (blk_cell BR.out 3).trans rfl; have hfz3 : w8.frozen? ⟨gR, 3, none⟩ = false := blk_frozen BR.out 3; have hz4 : w8.cell? ⟨gR, 4, none⟩ = some (.int .i64 0) := (blk_cell BR.out 4).trans rfl; have hfz4 : w8.frozen? ⟨gR, 4, none⟩ = false := blk_frozen BR.out 4; have hy0 : w8.cell? ⟨gB, 0, none⟩ = some (.int .i64 0) := (blk_cell BB.out 0).trans rfl; have hfy0 : w8.frozen? ⟨gB, 0, none⟩ = false := blk_frozen BB.out 0; have hy1 : w8.cell? ⟨gB, 1, none⟩ = some (.int .i64 0) := (blk_cell BB.out 1).trans rfl; have hfy1 : w8.frozen? ⟨gB, 1, none⟩ = false := blk_frozen BB.out 1; have hy2 : w8.cell? ⟨gB, 2, none⟩ = some (.int .i64 0) := (blk_cell BB.out 2).trans rfl; have hfy2 : w8.frozen? ⟨gB, 2, none⟩ = false := blk_frozen BB.out 2; have hy3 : w8.cell? ⟨gB, 3, none⟩ = some (.int .i64 0) := (blk_cell BB.out 3).trans rfl; have hfy3 : w8.frozen? ⟨gB, 3, none⟩ = false := blk_frozen BB.out 3; have hy4 : w8.cell? ⟨gB, 4, none⟩ = some (.int .i64 0) := (blk_cell BB.out 4).trans rfl; have hfy4 : w8.frozen? ⟨gB, 4, none⟩ = false := blk_frozen BB.out 4))
          refine bodyPost_ret (results_ct rfl _ _ gR 23 #[.int .i64 0, .int .i64 0, .int .i64 0, .int .i64 0, .int .i64 0] (0, 0) _ rfl (by (with_reducible repeat (first | refine blk_drewN ?_ _ | refine blk_drew ?_ | refine blk_alloc ?_ _)); refine blk_put (cs := #[.int .i64 0, .int .i64 0, .int .i64 0, .int .i64 0, .int .i64 0]) ?_ 4 _ rfl; (with_reducible repeat (first | refine blk_drewN ?_ _ | refine blk_drew ?_ | refine blk_alloc ?_ _)); refine blk_put (cs := #[.int .i64 0, .int .i64 0, .int .i64 0, .int .i64 0, .int .i64 0]) ?_ 3 _ rfl; (with_reducible repeat (first | refine blk_drewN ?_ _ | refine blk_drew ?_ | refine blk_alloc ?_ _)); refine blk_put (cs := #[.int .i64 0, .int .i64 0, .int .i64 0, .int .i64 0, .int .i64 0]) ?_ 2 _ rfl; (with_reducible repeat (first | refine blk_drewN ?_ _ | refine blk_drew ?_ | refine blk_alloc ?_ _)); refine blk_put (cs := #[.int .i64 0, .int .i64 0, .int .i64 0, .int .i64 0, .int .i64 0]) ?_ 1 _ rfl; (with_reducible repeat (first | refine blk_drewN ?_ _ | refine blk_drew ?_ | refine blk_alloc ?_ _)); refine blk_put (cs := #[.int .i64 0, .int .i64 0, .int .i64 0, .int .i64 0, .int .i64 0]) ?_ 0 _ rfl; (with_reducible repeat (first | refine blk_drewN ?_ _ | refine blk_drew ?_ | refine blk_alloc ?_ _)); exact BR.out) Tryz.underlying23 rfl (by kernel_rfl)) rfl ?_
          exact ⟨rfl, (by repeat (first | (with_reducible first | exact HB.out | apply below_alloc | apply pw_below_drewN | apply below_drew1 | refine below_set ?_ GR.out) | exact HB.out))⟩
      · have hF : wr.cell? ⟨gF, 3, none⟩ = some (.string q3) := (blk_cell BF.out 3).trans rfl
        have h00 : -9223372036854775807 ≤ (dP q3).1 := (dP_spec q3 (HSZ.out q3 (by simp))).2.1
        have h01 : (dP q3).1 ≤ 9223372036854775807 := (dP_spec q3 (HSZ.out q3 (by simp))).2.2
        by_cases hB : (dP q3).2 = true
        · by_cases hneg : (dP q3).1 < 0
          · have c0 : decide ((dP q3).1 < 0) = true := decide_eq_true hneg
            have hz := HBAD.out (fun h => by have := (h (dP q3) (by simp)).2.1; omega)
            simp only [Prod.mk.injEq] at hz
            obtain ⟨rfl, rfl, rfl, rfl, rfl, rfl⟩ := hz
            clear h00 h01
            go_wp2_with (first | (go_at_call 21; (with_reducible refine (dP_call q3 (HSZ.out q3 (by simp)) _ (GInv2.below HG.out (by repeat (first | (with_reducible first | exact HB.out | apply below_alloc | apply pw_below_drewN | apply below_drew1 | refine below_set ?_ GB.out | refine below_set ?_ GR.out) | exact HB.out | refine below_set ?_ GB.out | refine below_set ?_ GR.out))).one).mono ?_); rintro e w8 ⟨rfl, hb⟩; have n1_ := Aside0.mk (blk_below (g := gR) (o := .cells #[.int .i64 0, .int .i64 0, .int .i64 0, .int .i64 0, .int .i64 0] 23 (0, 0)) (by (with_reducible repeat (first | refine blk_drewN ?_ _ | refine blk_drew ?_ | refine blk_alloc ?_ _)); exact BR.out) hb); have n2_ := Aside0.mk (blk_below (g := gB) (o := .cells (mArr [(dP q1).1 / 10000, (dP q3).1 / 10000, (dP q5).1 / 10000, (dP q7).1 / 10000, (dP q9).1 / 10000] 1) 66 (0, 0)) (by (with_reducible repeat (first | refine blk_drewN ?_ _ | refine blk_drew ?_ | refine blk_alloc ?_ _)); exact BB.out) hb); have n3_ := Aside0.mk (blk_below (g := gF) (o := .cells #[.string q0, .string q1, .string q2, .string q3, .string q4, .string q5, .string q6, .string q7, .string q8, .string q9] 9 (0, 0)) (by (with_reducible repeat (first | refine blk_drewN ?_ _ | refine blk_drew ?_ | refine blk_alloc ?_ _)); exact BF.out) hb); have n0_ := Aside0.mk (below_step (by repeat (first | (with_reducible first | exact HB.out | apply below_alloc | apply pw_below_drewN | apply below_drew1 | refine below_set ?_ GB.out | refine below_set ?_ GR.out) | exact HB.out | refine below_set ?_ GB.out | refine below_set ?_ GR.out)) hb); clear HB BR BB BF; have HB := n0_; have BR := n1_; have BB := n2_; have BF := n3_; clear n0_ n1_ n2_ n3_ hb; (try clear hF); have hz0 : w8.cell? ⟨gR, 0, none⟩ = some (.int .i64 0) := (blk_cell BR.out 0).trans rfl; have hfz0 : w8.frozen? ⟨gR, 0, none⟩ = false := blk_frozen BR.out 0; have hz1 : w8.cell? ⟨gR, 1, none⟩ = some (.int .i64 0) := (blk_cell BR.out 1).trans rfl; have hfz1 : w8.frozen? ⟨gR, 1, none⟩ = false := blk_frozen BR.out 1; have hz2 : w8.cell? ⟨gR, 2, none⟩ = some (.int .i64 0) := (blk_cell BR.out 2).trans rfl; have hfz2 : w8.frozen? ⟨gR, 2, none⟩ = false := blk_frozen BR.out 2; have hz3 : w8.cell? ⟨gR, 3, none⟩ = some (.int .i64 0) := (blk_cell BR.out 3).trans rfl; have hfz3 : w8.frozen? ⟨gR, 3, none⟩ = false := blk_frozen BR.out 3; have hz4 : w8.cell? ⟨gR, 4, none⟩ = some (.int .i64 0) := (blk_cell BR.out 4).trans rfl; have hfz4 : w8.frozen? ⟨gR, 4, none⟩ = false := blk_frozen BR.out 4; have hy0 : w8.cell? ⟨gB, 0, none⟩ = some (.int .i64 ((dP q1).1 / 10000)) := (blk_cell BB.out 0).trans rfl; have hfy0 : w8.frozen? ⟨gB, 0, none⟩ = false := blk_frozen BB.out 0; have hy1 : w8.cell? ⟨gB, 1, none⟩ = some (.int .i64 0) := (blk_cell BB.out 1).trans rfl; have hfy1 : w8.frozen? ⟨gB, 1, none⟩ = false := blk_frozen BB.out 1; have hy2 : w8.cell? ⟨gB, 2, none⟩ = some (.int .i64 0) := (blk_cell BB.out 2).trans rfl; have hfy2 : w8.frozen? ⟨gB, 2, none⟩ = false := blk_frozen BB.out 2; have hy3 : w8.cell? ⟨gB, 3, none⟩ = some (.int .i64 0) := (blk_cell BB.out 3).trans rfl; have hfy3 : w8.frozen? ⟨gB, 3, none⟩ = false := blk_frozen BB.out 3; have hy4 : w8.cell? ⟨gB, 4, none⟩ = some (.int .i64 0) := (blk_cell BB.out 4).trans rfl; have hfy4 : w8.frozen? ⟨gB, 4, none⟩ = false := blk_frozen BB.out 4))
            refine bodyPost_ret (results_ct rfl _ _ gR 23 #[.int .i64 0, .int .i64 0, .int .i64 0, .int .i64 0, .int .i64 0] (0, 0) _ rfl (by (with_reducible repeat (first | refine blk_drewN ?_ _ | refine blk_drew ?_ | refine blk_alloc ?_ _)); refine blk_put (cs := #[.int .i64 0, .int .i64 0, .int .i64 0, .int .i64 0, .int .i64 0]) ?_ 4 _ rfl; (with_reducible repeat (first | refine blk_drewN ?_ _ | refine blk_drew ?_ | refine blk_alloc ?_ _)); refine blk_put (cs := #[.int .i64 0, .int .i64 0, .int .i64 0, .int .i64 0, .int .i64 0]) ?_ 3 _ rfl; (with_reducible repeat (first | refine blk_drewN ?_ _ | refine blk_drew ?_ | refine blk_alloc ?_ _)); refine blk_put (cs := #[.int .i64 0, .int .i64 0, .int .i64 0, .int .i64 0, .int .i64 0]) ?_ 2 _ rfl; (with_reducible repeat (first | refine blk_drewN ?_ _ | refine blk_drew ?_ | refine blk_alloc ?_ _)); refine blk_put (cs := #[.int .i64 0, .int .i64 0, .int .i64 0, .int .i64 0, .int .i64 0]) ?_ 1 _ rfl; (with_reducible repeat (first | refine blk_drewN ?_ _ | refine blk_drew ?_ | refine blk_alloc ?_ _)); refine blk_put (cs := #[.int .i64 0, .int .i64 0, .int .i64 0, .int .i64 0, .int .i64 0]) ?_ 0 _ rfl; (with_reducible repeat (first | refine blk_drewN ?_ _ | refine blk_drew ?_ | refine blk_alloc ?_ _)); exact BR.out) Tryz.underlying23 rfl (by kernel_rfl)) rfl ?_
            exact ⟨rfl, (by repeat (first | (with_reducible first | exact HB.out | apply below_alloc | apply pw_below_drewN | apply below_drew1 | refine below_set ?_ GR.out) | exact HB.out))⟩
          · have c0 : decide ((dP q3).1 < 0) = false := decide_eq_false hneg
            have c1 : Int.tmod (dP q3).1 10000 = (dP q3).1 % 10000 := tmd (by omega)
            by_cases hrem : (dP q3).1 % 10000 = 0
            · have c2 : ((dP q3).1 % 10000 != 0) = false := bne_eq_false_iff_eq.mpr hrem
              have c3 : Int.tdiv (dP q3).1 10000 = (dP q3).1 / 10000 := tdv (by omega)
              have c4 : wrap64 ((dP q3).1 / 10000) = (dP q3).1 / 10000 := w64_ (by omega) (by omega)
              have HO := Aside0.mk (show okN (dP q3) from ⟨hB, by omega, hrem⟩)
              clear h00 h01 hneg hrem
              go_wp2_with (first | (go_at_call 21; (with_reducible refine (dP_call q3 (HSZ.out q3 (by simp)) _ (GInv2.below HG.out (by repeat (first | (with_reducible first | exact HB.out | apply below_alloc | apply pw_below_drewN | apply below_drew1 | refine below_set ?_ GB.out | refine below_set ?_ GR.out) | exact HB.out | refine below_set ?_ GB.out | refine below_set ?_ GR.out))).one).mono ?_); rintro e w8 ⟨rfl, hb⟩; have n1_ := Aside0.mk (blk_below (g := gR) (o := .cells #[.int .i64 0, .int .i64 0, .int .i64 0, .int .i64 0, .int .i64 0] 23 (0, 0)) (by (with_reducible repeat (first | refine blk_drewN ?_ _ | refine blk_drew ?_ | refine blk_alloc ?_ _)); exact BR.out) hb); have n2_ := Aside0.mk (blk_below (g := gB) (o := .cells (mArr [(dP q1).1 / 10000, (dP q3).1 / 10000, (dP q5).1 / 10000, (dP q7).1 / 10000, (dP q9).1 / 10000] 1) 66 (0, 0)) (by (with_reducible repeat (first | refine blk_drewN ?_ _ | refine blk_drew ?_ | refine blk_alloc ?_ _)); exact BB.out) hb); have n3_ := Aside0.mk (blk_below (g := gF) (o := .cells #[.string q0, .string q1, .string q2, .string q3, .string q4, .string q5, .string q6, .string q7, .string q8, .string q9] 9 (0, 0)) (by (with_reducible repeat (first | refine blk_drewN ?_ _ | refine blk_drew ?_ | refine blk_alloc ?_ _)); exact BF.out) hb); have n0_ := Aside0.mk (below_step (by repeat (first | (with_reducible first | exact HB.out | apply below_alloc | apply pw_below_drewN | apply below_drew1 | refine below_set ?_ GB.out | refine below_set ?_ GR.out) | exact HB.out | refine below_set ?_ GB.out | refine below_set ?_ GR.out)) hb); clear HB BR BB BF; have HB := n0_; have BR := n1_; have BB := n2_; have BF := n3_; clear n0_ n1_ n2_ n3_ hb; (try clear hF); have hz0 : w8.cell? ⟨gR, 0, none⟩ = some (.int .i64 0) := (blk_cell BR.out 0).trans rfl; have hfz0 : w8.frozen? ⟨gR, 0, none⟩ = false := blk_frozen BR.out 0; have hz1 : w8.cell? ⟨gR, 1, none⟩ = some (.int .i64 0) := (blk_cell BR.out 1).trans rfl; have hfz1 : w8.frozen? ⟨gR, 1, none⟩ = false := blk_frozen BR.out 1; have hz2 : w8.cell? ⟨gR, 2, none⟩ = some (.int .i64 0) := (blk_cell BR.out 2).trans rfl; have hfz2 : w8.frozen? ⟨gR, 2, none⟩ = false := blk_frozen BR.out 2; have hz3 : w8.cell? ⟨gR, 3, none⟩ = some (.int .i64 0) := (blk_cell BR.out 3).trans rfl; have hfz3 : w8.frozen? ⟨gR, 3, none⟩ = false := blk_frozen BR.out 3; have hz4 : w8.cell? ⟨gR, 4, none⟩ = some (.int .i64 0) := (blk_cell BR.out 4).trans rfl; have hfz4 : w8.frozen? ⟨gR, 4, none⟩ = false := blk_frozen BR.out 4; have hy0 : w8.cell? ⟨gB, 0, none⟩ = some (.int .i64 ((dP q1).1 / 10000)) := (blk_cell BB.out 0).trans rfl; have hfy0 : w8.frozen? ⟨gB, 0, none⟩ = false := blk_frozen BB.out 0; have hy1 : w8.cell? ⟨gB, 1, none⟩ = some (.int .i64 0) := (blk_cell BB.out 1).trans rfl; have hfy1 : w8.frozen? ⟨gB, 1, none⟩ = false := blk_frozen BB.out 1; have hy2 : w8.cell? ⟨gB, 2, none⟩ = some (.int .i64 0) := (blk_cell BB.out 2).trans rfl; have hfy2 : w8.frozen? ⟨gB, 2, none⟩ = false := blk_frozen BB.out 2; have hy3 : w8.cell? ⟨gB, 3, none⟩ = some (.int .i64 0) := (blk_cell BB.out 3).trans rfl; have hfy3 : w8.frozen? ⟨gB, 3, none⟩ = false := blk_frozen BB.out 3; have hy4 : w8.cell? ⟨gB, 4, none⟩ = some (.int .i64 0) := (blk_cell BB.out 4).trans rfl; have hfy4 : w8.frozen? ⟨gB, 4, none⟩ = false := blk_frozen BB.out 4))
              go_roundg 3
              case measure => omega
              case rel => exact ⟨2, (by first | rfl | (simp; done)), ⟨by omega⟩, ⟨fun x hx => by
                have h2 : x ∈ ([dP q1, dP q3, dP q5, dP q7, dP q9]).take 1 ++ [dP q3] := hx
                rcases List.mem_append.1 h2 with h3 | h3
                · exact HI.out x h3
                · rw [List.mem_singleton.1 h3]; exact HO.out⟩, ⟨by (with_reducible repeat (first | refine blk_drewN ?_ _ | refine blk_drew ?_ | refine blk_alloc ?_ _)); refine blk_far ?_ (fun e => NE.out e.symm) _; (with_reducible repeat (first | refine blk_drewN ?_ _ | refine blk_drew ?_ | refine blk_alloc ?_ _)); exact BR.out⟩, ⟨by (with_reducible repeat (first | refine blk_drewN ?_ _ | refine blk_drew ?_ | refine blk_alloc ?_ _)); refine blk_put (cs := mArr [(dP q1).1 / 10000, (dP q3).1 / 10000, (dP q5).1 / 10000, (dP q7).1 / 10000, (dP q9).1 / 10000] 1) ?_ 1 _ rfl; (with_reducible repeat (first | refine blk_drewN ?_ _ | refine blk_drew ?_ | refine blk_alloc ?_ _)); exact BB.out⟩, ⟨by (with_reducible repeat (first | refine blk_drewN ?_ _ | refine blk_drew ?_ | refine blk_alloc ?_ _)); refine blk_far ?_ (fun e => NF.out e.symm) _; (with_reducible repeat (first | refine blk_drewN ?_ _ | refine blk_drew ?_ | refine blk_alloc ?_ _)); exact BF.out⟩, ⟨(by repeat (first | (with_reducible first | exact HB.out | apply below_alloc | apply pw_below_drewN | apply below_drew1 | refine below_set ?_ GB.out | refine below_set ?_ GR.out) | exact HB.out | refine below_set ?_ GB.out | refine below_set ?_ GR.out))⟩⟩
            · have c2 : ((dP q3).1 % 10000 != 0) = true := bne_iff_ne.mpr hrem
              have hz := HBAD.out (fun h => by exact hrem (h (dP q3) (by simp)).2.2)
              simp only [Prod.mk.injEq] at hz
              obtain ⟨rfl, rfl, rfl, rfl, rfl, rfl⟩ := hz
              clear h00 h01
              go_wp2_with (first | (go_at_call 21; (with_reducible refine (dP_call q3 (HSZ.out q3 (by simp)) _ (GInv2.below HG.out (by repeat (first | (with_reducible first | exact HB.out | apply below_alloc | apply pw_below_drewN | apply below_drew1 | refine below_set ?_ GB.out | refine below_set ?_ GR.out) | exact HB.out | refine below_set ?_ GB.out | refine below_set ?_ GR.out))).one).mono ?_); rintro e w8 ⟨rfl, hb⟩; have n1_ := Aside0.mk (blk_below (g := gR) (o := .cells #[.int .i64 0, .int .i64 0, .int .i64 0, .int .i64 0, .int .i64 0] 23 (0, 0)) (by (with_reducible repeat (first | refine blk_drewN ?_ _ | refine blk_drew ?_ | refine blk_alloc ?_ _)); exact BR.out) hb); have n2_ := Aside0.mk (blk_below (g := gB) (o := .cells (mArr [(dP q1).1 / 10000, (dP q3).1 / 10000, (dP q5).1 / 10000, (dP q7).1 / 10000, (dP q9).1 / 10000] 1) 66 (0, 0)) (by (with_reducible repeat (first | refine blk_drewN ?_ _ | refine blk_drew ?_ | refine blk_alloc ?_ _)); exact BB.out) hb); have n3_ := Aside0.mk (blk_below (g := gF) (o := .cells #[.string q0, .string q1, .string q2, .string q3, .string q4, .string q5, .string q6, .string q7, .string q8, .string q9] 9 (0, 0)) (by (with_reducible repeat (first | refine blk_drewN ?_ _ | refine blk_drew ?_ | refine blk_alloc ?_ _)); exact BF.out) hb); have n0_ := Aside0.mk (below_step (by repeat (first | (with_reducible first | exact HB.out | apply below_alloc | apply pw_below_drewN | apply below_drew1 | refine below_set ?_ GB.out | refine below_set ?_ GR.out) | exact HB.out | refine below_set ?_ GB.out | refine below_set ?_ GR.out)) hb); clear HB BR BB BF; have HB := n0_; have BR := n1_; have BB := n2_; have BF := n3_; clear n0_ n1_ n2_ n3_ hb; (try clear hF); have hz0 : w8.cell? ⟨gR, 0, none⟩ = some (.int .i64 0) := (blk_cell BR.out 0).trans rfl; have hfz0 : w8.frozen? ⟨gR, 0, none⟩ = false := blk_frozen BR.out 0; have hz1 : w8.cell? ⟨gR, 1, none⟩ = some (.int .i64 0) := (blk_cell BR.out 1).trans rfl; have hfz1 : w8.frozen? ⟨gR, 1, none⟩ = false := blk_frozen BR.out 1; have hz2 : w8.cell? ⟨gR, 2, none⟩ = some (.int .i64 0) := (blk_cell BR.out 2).trans rfl; have hfz2 : w8.frozen? ⟨gR, 2, none⟩ = false := blk_frozen BR.out 2; have hz3 : w8.cell? ⟨gR, 3, none⟩ = some (.int .i64 0) := (blk_cell BR.out 3).trans rfl; have hfz3 : w8.frozen? ⟨gR, 3, none⟩ = false := blk_frozen BR.out 3; have hz4 : w8.cell? ⟨gR, 4, none⟩ = some (.int .i64 0) := (blk_cell BR.out 4).trans rfl; have hfz4 : w8.frozen? ⟨gR, 4, none⟩ = false := blk_frozen BR.out 4; have hy0 : w8.cell? ⟨gB, 0, none⟩ = some (.int .i64 ((dP q1).1 / 10000)) := (blk_cell BB.out 0).trans rfl; have hfy0 : w8.frozen? ⟨gB, 0, none⟩ = false := blk_frozen BB.out 0; have hy1 : w8.cell? ⟨gB, 1, none⟩ = some (.int .i64 0) := (blk_cell BB.out 1).trans rfl; have hfy1 : w8.frozen? ⟨gB, 1, none⟩ = false := blk_frozen BB.out 1; have hy2 : w8.cell? ⟨gB, 2, none⟩ = some (.int .i64 0) := (blk_cell BB.out 2).trans rfl; have hfy2 : w8.frozen? ⟨gB, 2, none⟩ = false := blk_frozen BB.out 2; have hy3 : w8.cell? ⟨gB, 3, none⟩ = some (.int .i64 0) := (blk_cell BB.out 3).trans rfl; have hfy3 : w8.frozen? ⟨gB, 3, none⟩ = false := blk_frozen BB.out 3; have hy4 : w8.cell? ⟨gB, 4, none⟩ = some (.int .i64 0) := (blk_cell BB.out 4).trans rfl; have hfy4 : w8.frozen? ⟨gB, 4, none⟩ = false := blk_frozen BB.out 4))
              refine bodyPost_ret (results_ct rfl _ _ gR 23 #[.int .i64 0, .int .i64 0, .int .i64 0, .int .i64 0, .int .i64 0] (0, 0) _ rfl (by (with_reducible repeat (first | refine blk_drewN ?_ _ | refine blk_drew ?_ | refine blk_alloc ?_ _)); refine blk_put (cs := #[.int .i64 0, .int .i64 0, .int .i64 0, .int .i64 0, .int .i64 0]) ?_ 4 _ rfl; (with_reducible repeat (first | refine blk_drewN ?_ _ | refine blk_drew ?_ | refine blk_alloc ?_ _)); refine blk_put (cs := #[.int .i64 0, .int .i64 0, .int .i64 0, .int .i64 0, .int .i64 0]) ?_ 3 _ rfl; (with_reducible repeat (first | refine blk_drewN ?_ _ | refine blk_drew ?_ | refine blk_alloc ?_ _)); refine blk_put (cs := #[.int .i64 0, .int .i64 0, .int .i64 0, .int .i64 0, .int .i64 0]) ?_ 2 _ rfl; (with_reducible repeat (first | refine blk_drewN ?_ _ | refine blk_drew ?_ | refine blk_alloc ?_ _)); refine blk_put (cs := #[.int .i64 0, .int .i64 0, .int .i64 0, .int .i64 0, .int .i64 0]) ?_ 1 _ rfl; (with_reducible repeat (first | refine blk_drewN ?_ _ | refine blk_drew ?_ | refine blk_alloc ?_ _)); refine blk_put (cs := #[.int .i64 0, .int .i64 0, .int .i64 0, .int .i64 0, .int .i64 0]) ?_ 0 _ rfl; (with_reducible repeat (first | refine blk_drewN ?_ _ | refine blk_drew ?_ | refine blk_alloc ?_ _)); exact BR.out) Tryz.underlying23 rfl (by kernel_rfl)) rfl ?_
              exact ⟨rfl, (by repeat (first | (with_reducible first | exact HB.out | apply below_alloc | apply pw_below_drewN | apply below_drew1 | refine below_set ?_ GR.out) | exact HB.out))⟩
        · replace hB : (dP q3).2 = false := Bool.eq_false_iff.mpr hB
          have hz := HBAD.out (fun h => by have := (h (dP q3) (by simp)).1; rw [hB] at this; cases this)
          simp only [Prod.mk.injEq] at hz
          obtain ⟨rfl, rfl, rfl, rfl, rfl, rfl⟩ := hz
          clear h00 h01
          go_wp2_with (first | (go_at_call 21; (with_reducible refine (dP_call q3 (HSZ.out q3 (by simp)) _ (GInv2.below HG.out (by repeat (first | (with_reducible first | exact HB.out | apply below_alloc | apply pw_below_drewN | apply below_drew1 | refine below_set ?_ GB.out | refine below_set ?_ GR.out) | exact HB.out | refine below_set ?_ GB.out | refine below_set ?_ GR.out))).one).mono ?_); rintro e w8 ⟨rfl, hb⟩; have n1_ := Aside0.mk (blk_below (g := gR) (o := .cells #[.int .i64 0, .int .i64 0, .int .i64 0, .int .i64 0, .int .i64 0] 23 (0, 0)) (by (with_reducible repeat (first | refine blk_drewN ?_ _ | refine blk_drew ?_ | refine blk_alloc ?_ _)); exact BR.out) hb); have n2_ := Aside0.mk (blk_below (g := gB) (o := .cells (mArr [(dP q1).1 / 10000, (dP q3).1 / 10000, (dP q5).1 / 10000, (dP q7).1 / 10000, (dP q9).1 / 10000] 1) 66 (0, 0)) (by (with_reducible repeat (first | refine blk_drewN ?_ _ | refine blk_drew ?_ | refine blk_alloc ?_ _)); exact BB.out) hb); have n3_ := Aside0.mk (blk_below (g := gF) (o := .cells #[.string q0, .string q1, .string q2, .string q3, .string q4, .string q5, .string q6, .string q7, .string q8, .string q9] 9 (0, 0)) (by (with_reducible repeat (first | refine blk_drewN ?_ _ | refine blk_drew ?_ | refine blk_alloc ?_ _)); exact BF.out) hb); have n0_ := Aside0.mk (below_step (by repeat (first | (with_reducible first | exact HB.out | apply below_alloc | apply pw_below_drewN | apply below_drew1 | refine below_set ?_ GB.out | refine below_set ?_ GR.out) | exact HB.out | refine below_set ?_ GB.out | refine below_set ?_ GR.out)) hb); clear HB BR BB BF; have HB := n0_; have BR := n1_; have BB := n2_; have BF := n3_; clear n0_ n1_ n2_ n3_ hb; (try clear hF); have hz0 : w8.cell? ⟨gR, 0, none⟩ = some (.int .i64 0) := (blk_cell BR.out 0).trans rfl; have hfz0 : w8.frozen? ⟨gR, 0, none⟩ = false := blk_frozen BR.out 0; have hz1 : w8.cell? ⟨gR, 1, none⟩ = some (.int .i64 0) := (blk_cell BR.out 1).trans rfl; have hfz1 : w8.frozen? ⟨gR, 1, none⟩ = false := blk_frozen BR.out 1; have hz2 : w8.cell? ⟨gR, 2, none⟩ = some (.int .i64 0) := (blk_cell BR.out 2).trans rfl; have hfz2 : w8.frozen? ⟨gR, 2, none⟩ = false := blk_frozen BR.out 2; have hz3 : w8.cell? ⟨gR, 3, none⟩ = some (.int .i64 0) := (blk_cell BR.out 3).trans rfl; have hfz3 : w8.frozen? ⟨gR, 3, none⟩ = false := blk_frozen BR.out 3; have hz4 : w8.cell? ⟨gR, 4, none⟩ = some (.int .i64 0) := (blk_cell BR.out 4).trans rfl; have hfz4 : w8.frozen? ⟨gR, 4, none⟩ = false := blk_frozen BR.out 4; have hy0 : w8.cell? ⟨gB, 0, none⟩ = some (.int .i64 ((dP q1).1 / 10000)) := (blk_cell BB.out 0).trans rfl; have hfy0 : w8.frozen? ⟨gB, 0, none⟩ = false := blk_frozen BB.out 0; have hy1 : w8.cell? ⟨gB, 1, none⟩ = some (.int .i64 0) := (blk_cell BB.out 1).trans rfl; have hfy1 : w8.frozen? ⟨gB, 1, none⟩ = false := blk_frozen BB.out 1; have hy2 : w8.cell? ⟨gB, 2, none⟩ = some (.int .i64 0) := (blk_cell BB.out 2).trans rfl; have hfy2 : w8.frozen? ⟨gB, 2, none⟩ = false := blk_frozen BB.out 2; have hy3 : w8.cell? ⟨gB, 3, none⟩ = some (.int .i64 0) := (blk_cell BB.out 3).trans rfl; have hfy3 : w8.frozen? ⟨gB, 3, none⟩ = false := blk_frozen BB.out 3; have hy4 : w8.cell? ⟨gB, 4, none⟩ = some (.int .i64 0) := (blk_cell BB.out 4).trans rfl; have hfy4 : w8.frozen? ⟨gB, 4, none⟩ = false := blk_frozen BB.out 4))
          refine bodyPost_ret (results_ct rfl _ _ gR 23 #[.int .i64 0, .int .i64 0, .int .i64 0, .int .i64 0, .int .i64 0] (0, 0) _ rfl (by (with_reducible repeat (first | refine blk_drewN ?_ _ | refine blk_drew ?_ | refine blk_alloc ?_ _)); refine blk_put (cs := #[.int .i64 0, .int .i64 0, .int .i64 0, .int .i64 0, .int .i64 0]) ?_ 4 _ rfl; (with_reducible repeat (first | refine blk_drewN ?_ _ | refine blk_drew ?_ | refine blk_alloc ?_ _)); refine blk_put (cs := #[.int .i64 0, .int .i64 0, .int .i64 0, .int .i64 0, .int .i64 0]) ?_ 3 _ rfl; (with_reducible repeat (first | refine blk_drewN ?_ _ | refine blk_drew ?_ | refine blk_alloc ?_ _)); refine blk_put (cs := #[.int .i64 0, .int .i64 0, .int .i64 0, .int .i64 0, .int .i64 0]) ?_ 2 _ rfl; (with_reducible repeat (first | refine blk_drewN ?_ _ | refine blk_drew ?_ | refine blk_alloc ?_ _)); refine blk_put (cs := #[.int .i64 0, .int .i64 0, .int .i64 0, .int .i64 0, .int .i64 0]) ?_ 1 _ rfl; (with_reducible repeat (first | refine blk_drewN ?_ _ | refine blk_drew ?_ | refine blk_alloc ?_ _)); refine blk_put (cs := #[.int .i64 0, .int .i64 0, .int .i64 0, .int .i64 0, .int .i64 0]) ?_ 0 _ rfl; (with_reducible repeat (first | refine blk_drewN ?_ _ | refine blk_drew ?_ | refine blk_alloc ?_ _)); exact BR.out) Tryz.underlying23 rfl (by kernel_rfl)) rfl ?_
          exact ⟨rfl, (by repeat (first | (with_reducible first | exact HB.out | apply below_alloc | apply pw_below_drewN | apply below_drew1 | refine below_set ?_ GR.out) | exact HB.out))⟩
      · have hF : wr.cell? ⟨gF, 5, none⟩ = some (.string q5) := (blk_cell BF.out 5).trans rfl
        have h00 : -9223372036854775807 ≤ (dP q5).1 := (dP_spec q5 (HSZ.out q5 (by simp))).2.1
        have h01 : (dP q5).1 ≤ 9223372036854775807 := (dP_spec q5 (HSZ.out q5 (by simp))).2.2
        by_cases hB : (dP q5).2 = true
        · by_cases hneg : (dP q5).1 < 0
          · have c0 : decide ((dP q5).1 < 0) = true := decide_eq_true hneg
            have hz := HBAD.out (fun h => by have := (h (dP q5) (by simp)).2.1; omega)
            simp only [Prod.mk.injEq] at hz
            obtain ⟨rfl, rfl, rfl, rfl, rfl, rfl⟩ := hz
            clear h00 h01
            go_wp2_with (first | (go_at_call 21; (with_reducible refine (dP_call q5 (HSZ.out q5 (by simp)) _ (GInv2.below HG.out (by repeat (first | (with_reducible first | exact HB.out | apply below_alloc | apply pw_below_drewN | apply below_drew1 | refine below_set ?_ GB.out | refine below_set ?_ GR.out) | exact HB.out | refine below_set ?_ GB.out | refine below_set ?_ GR.out))).one).mono ?_); rintro e w8 ⟨rfl, hb⟩; have n1_ := Aside0.mk (blk_below (g := gR) (o := .cells #[.int .i64 0, .int .i64 0, .int .i64 0, .int .i64 0, .int .i64 0] 23 (0, 0)) (by (with_reducible repeat (first | refine blk_drewN ?_ _ | refine blk_drew ?_ | refine blk_alloc ?_ _)); exact BR.out) hb); have n2_ := Aside0.mk (blk_below (g := gB) (o := .cells (mArr [(dP q1).1 / 10000, (dP q3).1 / 10000, (dP q5).1 / 10000, (dP q7).1 / 10000, (dP q9).1 / 10000] 2) 66 (0, 0)) (by (with_reducible repeat (first | refine blk_drewN ?_ _ | refine blk_drew ?_ | refine blk_alloc ?_ _)); exact BB.out) hb); have n3_ := Aside0.mk (blk_below (g := gF) (o := .cells #[.string q0, .string q1, .string q2, .string q3, .string q4, .string q5, .string q6, .string q7, .string q8, .string q9] 9 (0, 0)) (by (with_reducible repeat (first | refine blk_drewN ?_ _ | refine blk_drew ?_ | refine blk_alloc ?_ _)); exact BF.out) hb); have n0_ := Aside0.mk (below_step (by repeat (first | (with_reducible first | exact HB.out | apply below_alloc | apply pw_below_drewN | apply below_drew1 | refine below_set ?_ GB.out | refine below_set ?_ GR.out) | exact HB.out | refine below_set ?_ GB.out | refine below_set ?_ GR.out)) hb); clear HB BR BB BF; have HB := n0_; have BR := n1_; have BB := n2_; have BF := n3_; clear n0_ n1_ n2_ n3_ hb; (try clear hF); have hz0 : w8.cell? ⟨gR, 0, none⟩ = some (.int .i64 0) := (blk_cell BR.out 0).trans rfl; have hfz0 : w8.frozen? ⟨gR, 0, none⟩ = false := blk_frozen BR.out 0; have hz1 : w8.cell? ⟨gR, 1, none⟩ = some (.int .i64 0) := (blk_cell BR.out 1).trans rfl; have hfz1 : w8.frozen? ⟨gR, 1, none⟩ = false := blk_frozen BR.out 1; have hz2 : w8.cell? ⟨gR, 2, none⟩ = some (.int .i64 0) := (blk_cell BR.out 2).trans rfl; have hfz2 : w8.frozen? ⟨gR, 2, none⟩ = false := blk_frozen BR.out 2; have hz3 : w8.cell? ⟨gR, 3, none⟩ = some (.int .i64 0) := (blk_cell BR.out 3).trans rfl; have hfz3 : w8.frozen? ⟨gR, 3, none⟩ = false := blk_frozen BR.out 3; have hz4 : w8.cell? ⟨gR, 4, none⟩ = some (.int .i64 0) := (blk_cell BR.out 4).trans rfl; have hfz4 : w8.frozen? ⟨gR, 4, none⟩ = false := blk_frozen BR.out 4; have hy0 : w8.cell? ⟨gB, 0, none⟩ = some (.int .i64 ((dP q1).1 / 10000)) := (blk_cell BB.out 0).trans rfl; have hfy0 : w8.frozen? ⟨gB, 0, none⟩ = false := blk_frozen BB.out 0; have hy1 : w8.cell? ⟨gB, 1, none⟩ = some (.int .i64 ((dP q3).1 / 10000)) := (blk_cell BB.out 1).trans rfl; have hfy1 : w8.frozen? ⟨gB, 1, none⟩ = false := blk_frozen BB.out 1; have hy2 : w8.cell? ⟨gB, 2, none⟩ = some (.int .i64 0) := (blk_cell BB.out 2).trans rfl; have hfy2 : w8.frozen? ⟨gB, 2, none⟩ = false := blk_frozen BB.out 2; have hy3 : w8.cell? ⟨gB, 3, none⟩ = some (.int .i64 0) := (blk_cell BB.out 3).trans rfl; have hfy3 : w8.frozen? ⟨gB, 3, none⟩ = false := blk_frozen BB.out 3; have hy4 : w8.cell? ⟨gB, 4, none⟩ = some (.int .i64 0) := (blk_cell BB.out 4).trans rfl; have hfy4 : w8.frozen? ⟨gB, 4, none⟩ = false := blk_frozen BB.out 4))
            refine bodyPost_ret (results_ct rfl _ _ gR 23 #[.int .i64 0, .int .i64 0, .int .i64 0, .int .i64 0, .int .i64 0] (0, 0) _ rfl (by (with_reducible repeat (first | refine blk_drewN ?_ _ | refine blk_drew ?_ | refine blk_alloc ?_ _)); refine blk_put (cs := #[.int .i64 0, .int .i64 0, .int .i64 0, .int .i64 0, .int .i64 0]) ?_ 4 _ rfl; (with_reducible repeat (first | refine blk_drewN ?_ _ | refine blk_drew ?_ | refine blk_alloc ?_ _)); refine blk_put (cs := #[.int .i64 0, .int .i64 0, .int .i64 0, .int .i64 0, .int .i64 0]) ?_ 3 _ rfl; (with_reducible repeat (first | refine blk_drewN ?_ _ | refine blk_drew ?_ | refine blk_alloc ?_ _)); refine blk_put (cs := #[.int .i64 0, .int .i64 0, .int .i64 0, .int .i64 0, .int .i64 0]) ?_ 2 _ rfl; (with_reducible repeat (first | refine blk_drewN ?_ _ | refine blk_drew ?_ | refine blk_alloc ?_ _)); refine blk_put (cs := #[.int .i64 0, .int .i64 0, .int .i64 0, .int .i64 0, .int .i64 0]) ?_ 1 _ rfl; (with_reducible repeat (first | refine blk_drewN ?_ _ | refine blk_drew ?_ | refine blk_alloc ?_ _)); refine blk_put (cs := #[.int .i64 0, .int .i64 0, .int .i64 0, .int .i64 0, .int .i64 0]) ?_ 0 _ rfl; (with_reducible repeat (first | refine blk_drewN ?_ _ | refine blk_drew ?_ | refine blk_alloc ?_ _)); exact BR.out) Tryz.underlying23 rfl (by kernel_rfl)) rfl ?_
            exact ⟨rfl, (by repeat (first | (with_reducible first | exact HB.out | apply below_alloc | apply pw_below_drewN | apply below_drew1 | refine below_set ?_ GR.out) | exact HB.out))⟩
          · have c0 : decide ((dP q5).1 < 0) = false := decide_eq_false hneg
            have c1 : Int.tmod (dP q5).1 10000 = (dP q5).1 % 10000 := tmd (by omega)
            by_cases hrem : (dP q5).1 % 10000 = 0
            · have c2 : ((dP q5).1 % 10000 != 0) = false := bne_eq_false_iff_eq.mpr hrem
              have c3 : Int.tdiv (dP q5).1 10000 = (dP q5).1 / 10000 := tdv (by omega)
              have c4 : wrap64 ((dP q5).1 / 10000) = (dP q5).1 / 10000 := w64_ (by omega) (by omega)
              have HO := Aside0.mk (show okN (dP q5) from ⟨hB, by omega, hrem⟩)
              clear h00 h01 hneg hrem
              go_wp2_with (first | (go_at_call 21; (with_reducible refine (dP_call q5 (HSZ.out q5 (by simp)) _ (GInv2.below HG.out (by repeat (first | (with_reducible first | exact HB.out | apply below_alloc | apply pw_below_drewN | apply below_drew1 | refine below_set ?_ GB.out | refine below_set ?_ GR.out) | exact HB.out | refine below_set ?_ GB.out | refine below_set ?_ GR.out))).one).mono ?_); rintro e w8 ⟨rfl, hb⟩; have n1_ := Aside0.mk (blk_below (g := gR) (o := .cells #[.int .i64 0, .int .i64 0, .int .i64 0, .int .i64 0, .int .i64 0] 23 (0, 0)) (by (with_reducible repeat (first | refine blk_drewN ?_ _ | refine blk_drew ?_ | refine blk_alloc ?_ _)); exact BR.out) hb); have n2_ := Aside0.mk (blk_below (g := gB) (o := .cells (mArr [(dP q1).1 / 10000, (dP q3).1 / 10000, (dP q5).1 / 10000, (dP q7).1 / 10000, (dP q9).1 / 10000] 2) 66 (0, 0)) (by (with_reducible repeat (first | refine blk_drewN ?_ _ | refine blk_drew ?_ | refine blk_alloc ?_ _)); exact BB.out) hb); have n3_ := Aside0.mk (blk_below (g := gF) (o := .cells #[.string q0, .string q1, .string q2, .string q3, .string q4, .string q5, .string q6, .string q7, .string q8, .string q9] 9 (0, 0)) (by (with_reducible repeat (first | refine blk_drewN ?_ _ | refine blk_drew ?_ | refine blk_alloc ?_ _)); exact BF.out) hb); have n0_ := Aside0.mk (below_step (by repeat (first | (with_reducible first | exact HB.out | apply below_alloc | apply pw_below_drewN | apply below_drew1 | refine below_set ?_ GB.out | refine below_set ?_ GR.out) | exact HB.out | refine below_set ?_ GB.out | refine below_set ?_ GR.out)) hb); clear HB BR BB BF; have HB := n0_; have BR := n1_; have BB := n2_; have BF := n3_; clear n0_ n1_ n2_ n3_ hb; (try clear hF); have hz0 : w8.cell? ⟨gR, 0, none⟩ = some (.int .i64 0) := (blk_cell BR.out 0).trans rfl; have hfz0 : w8.frozen? ⟨gR, 0, none⟩ = false := blk_frozen BR.out 0; have hz1 : w8.cell? ⟨gR, 1, none⟩ = some (.int .i64 0) := (blk_cell BR.out 1).trans rfl; have hfz1 : w8.frozen? ⟨gR, 1, none⟩ = false := blk_frozen BR.out 1; have hz2 : w8.cell? ⟨gR, 2, none⟩ = some (.int .i64 0) := (blk_cell BR.out 2).trans rfl; have hfz2 : w8.frozen? ⟨gR, 2, none⟩ = false := blk_frozen BR.out 2; have hz3 : w8.cell? ⟨gR, 3, none⟩ = some (.int .i64 0) := (blk_cell BR.out 3).trans rfl; have hfz3 : w8.frozen? ⟨gR, 3, none⟩ = false := blk_frozen BR.out 3; have hz4 : w8.cell? ⟨gR, 4, none⟩ = some (.int .i64 0) := (blk_cell BR.out 4).trans rfl; have hfz4 : w8.frozen? ⟨gR, 4, none⟩ = false := blk_frozen BR.out 4; have hy0 : w8.cell? ⟨gB, 0, none⟩ = some (.int .i64 ((dP q1).1 / 10000)) := (blk_cell BB.out 0).trans rfl; have hfy0 : w8.frozen? ⟨gB, 0, none⟩ = false := blk_frozen BB.out 0; have hy1 : w8.cell? ⟨gB, 1, none⟩ = some (.int .i64 ((dP q3).1 / 10000)) := (blk_cell BB.out 1).trans rfl; have hfy1 : w8.frozen? ⟨gB, 1, none⟩ = false := blk_frozen BB.out 1; have hy2 : w8.cell? ⟨gB, 2, none⟩ = some (.int .i64 0) := (blk_cell BB.out 2).trans rfl; have hfy2 : w8.frozen? ⟨gB, 2, none⟩ = false := blk_frozen BB.out 2; have hy3 : w8.cell? ⟨gB, 3, none⟩ = some (.int .i64 0) := (blk_cell BB.out 3).trans rfl; have hfy3 : w8.frozen? ⟨gB, 3, none⟩ = false := blk_frozen BB.out 3; have hy4 : w8.cell? ⟨gB, 4, none⟩ = some (.int .i64 0) := (blk_cell BB.out 4).trans rfl; have hfy4 : w8.frozen? ⟨gB, 4, none⟩ = false := blk_frozen BB.out 4))
              go_roundg 2
              case measure => omega
              case rel => exact ⟨3, (by first | rfl | (simp; done)), ⟨by omega⟩, ⟨fun x hx => by
                have h2 : x ∈ ([dP q1, dP q3, dP q5, dP q7, dP q9]).take 2 ++ [dP q5] := hx
                rcases List.mem_append.1 h2 with h3 | h3
                · exact HI.out x h3
                · rw [List.mem_singleton.1 h3]; exact HO.out⟩, ⟨by (with_reducible repeat (first | refine blk_drewN ?_ _ | refine blk_drew ?_ | refine blk_alloc ?_ _)); refine blk_far ?_ (fun e => NE.out e.symm) _; (with_reducible repeat (first | refine blk_drewN ?_ _ | refine blk_drew ?_ | refine blk_alloc ?_ _)); exact BR.out⟩, ⟨by (with_reducible repeat (first | refine blk_drewN ?_ _ | refine blk_drew ?_ | refine blk_alloc ?_ _)); refine blk_put (cs := mArr [(dP q1).1 / 10000, (dP q3).1 / 10000, (dP q5).1 / 10000, (dP q7).1 / 10000, (dP q9).1 / 10000] 2) ?_ 2 _ rfl; (with_reducible repeat (first | refine blk_drewN ?_ _ | refine blk_drew ?_ | refine blk_alloc ?_ _)); exact BB.out⟩, ⟨by (with_reducible repeat (first | refine blk_drewN ?_ _ | refine blk_drew ?_ | refine blk_alloc ?_ _)); refine blk_far ?_ (fun e => NF.out e.symm) _; (with_reducible repeat (first | refine blk_drewN ?_ _ | refine blk_drew ?_ | refine blk_alloc ?_ _)); exact BF.out⟩, ⟨(by repeat (first | (with_reducible first | exact HB.out | apply below_alloc | apply pw_below_drewN | apply below_drew1 | refine below_set ?_ GB.out | refine below_set ?_ GR.out) | exact HB.out | refine below_set ?_ GB.out | refine below_set ?_ GR.out))⟩⟩
            · have c2 : ((dP q5).1 % 10000 != 0) = true := bne_iff_ne.mpr hrem
              have hz := HBAD.out (fun h => by exact hrem (h (dP q5) (by simp)).2.2)
              simp only [Prod.mk.injEq] at hz
              obtain ⟨rfl, rfl, rfl, rfl, rfl, rfl⟩ := hz
              clear h00 h01
              go_wp2_with (first | (go_at_call 21; (with_reducible refine (dP_call q5 (HSZ.out q5 (by simp)) _ (GInv2.below HG.out (by repeat (first | (with_reducible first | exact HB.out | apply below_alloc | apply pw_below_drewN | apply below_drew1 | refine below_set ?_ GB.out | refine below_set ?_ GR.out) | exact HB.out | refine below_set ?_ GB.out | refine below_set ?_ GR.out))).one).mono ?_); rintro e w8 ⟨rfl, hb⟩; have n1_ := Aside0.mk (blk_below (g := gR) (o := .cells #[.int .i64 0, .int .i64 0, .int .i64 0, .int .i64 0, .int .i64 0] 23 (0, 0)) (by (with_reducible repeat (first | refine blk_drewN ?_ _ | refine blk_drew ?_ | refine blk_alloc ?_ _)); exact BR.out) hb); have n2_ := Aside0.mk (blk_below (g := gB) (o := .cells (mArr [(dP q1).1 / 10000, (dP q3).1 / 10000, (dP q5).1 / 10000, (dP q7).1 / 10000, (dP q9).1 / 10000] 2) 66 (0, 0)) (by (with_reducible repeat (first | refine blk_drewN ?_ _ | refine blk_drew ?_ | refine blk_alloc ?_ _)); exact BB.out) hb); have n3_ := Aside0.mk (blk_below (g := gF) (o := .cells #[.string q0, .string q1, .string q2, .string q3, .string q4, .string q5, .string q6, .string q7, .string q8, .string q9] 9 (0, 0)) (by (with_reducible repeat (first | refine blk_drewN ?_ _ | refine blk_drew ?_ | refine blk_alloc ?_ _)); exact BF.out) hb); have n0_ := Aside0.mk (below_step (by repeat (first | (with_reducible first | exact HB.out | apply below_alloc | apply pw_below_drewN | apply below_drew1 | refine below_set ?_ GB.out | refine below_set ?_ GR.out) | exact HB.out | refine below_set ?_ GB.out | refine below_set ?_ GR.out)) hb); clear HB BR BB BF; have HB := n0_; have BR := n1_; have BB := n2_; have BF := n3_; clear n0_ n1_ n2_ n3_ hb; (try clear hF); have hz0 : w8.cell? ⟨gR, 0, none⟩ = some (.int .i64 0) := (blk_cell BR.out 0).trans rfl; have hfz0 : w8.frozen? ⟨gR, 0, none⟩ = false := blk_frozen BR.out 0; have hz1 : w8.cell? ⟨gR, 1, none⟩ = some (.int .i64 0) := (blk_cell BR.out 1).trans rfl; have hfz1 : w8.frozen? ⟨gR, 1, none⟩ = false := blk_frozen BR.out 1; have hz2 : w8.cell? ⟨gR, 2, none⟩ = some (.int .i64 0) := (blk_cell BR.out 2).trans rfl; have hfz2 : w8.frozen? ⟨gR, 2, none⟩ = false := blk_frozen BR.out 2; have hz3 : w8.cell? ⟨gR, 3, none⟩ = some (.int .i64 0) := (blk_cell BR.out 3).trans rfl; have hfz3 : w8.frozen? ⟨gR, 3, none⟩ = false := blk_frozen BR.out 3; have hz4 : w8.cell? ⟨gR, 4, none⟩ = some (.int .i64 0) := (blk_cell BR.out 4).trans rfl; have hfz4 : w8.frozen? ⟨gR, 4, none⟩ = false := blk_frozen BR.out 4; have hy0 : w8.cell? ⟨gB, 0, none⟩ = some (.int .i64 ((dP q1).1 / 10000)) := (blk_cell BB.out 0).trans rfl; have hfy0 : w8.frozen? ⟨gB, 0, none⟩ = false := blk_frozen BB.out 0; have hy1 : w8.cell? ⟨gB, 1, none⟩ = some (.int .i64 ((dP q3).1 / 10000)) := (blk_cell BB.out 1).trans rfl; have hfy1 : w8.frozen? ⟨gB, 1, none⟩ = false := blk_frozen BB.out 1; have hy2 : w8.cell? ⟨gB, 2, none⟩ = some (.int .i64 0) := (blk_cell BB.out 2).trans rfl; have hfy2 : w8.frozen? ⟨gB, 2, none⟩ = false := blk_frozen BB.out 2; have hy3 : w8.cell? ⟨gB, 3, none⟩ = some (.int .i64 0) := (blk_cell BB.out 3).trans rfl; have hfy3 : w8.frozen? ⟨gB, 3, none⟩ = false := blk_frozen BB.out 3; have hy4 : w8.cell? ⟨gB, 4, none⟩ = some (.int .i64 0) := (blk_cell BB.out 4).trans rfl; have hfy4 : w8.frozen? ⟨gB, 4, none⟩ = false := blk_frozen BB.out 4))
              refine bodyPost_ret (results_ct rfl _ _ gR 23 #[.int .i64 0, .int .i64 0, .int .i64 0, .int .i64 0, .int .i64 0] (0, 0) _ rfl (by (with_reducible repeat (first | refine blk_drewN ?_ _ | refine blk_drew ?_ | refine blk_alloc ?_ _)); refine blk_put (cs := #[.int .i64 0, .int .i64 0, .int .i64 0, .int .i64 0, .int .i64 0]) ?_ 4 _ rfl; (with_reducible repeat (first | refine blk_drewN ?_ _ | refine blk_drew ?_ | refine blk_alloc ?_ _)); refine blk_put (cs := #[.int .i64 0, .int .i64 0, .int .i64 0, .int .i64 0, .int .i64 0]) ?_ 3 _ rfl; (with_reducible repeat (first | refine blk_drewN ?_ _ | refine blk_drew ?_ | refine blk_alloc ?_ _)); refine blk_put (cs := #[.int .i64 0, .int .i64 0, .int .i64 0, .int .i64 0, .int .i64 0]) ?_ 2 _ rfl; (with_reducible repeat (first | refine blk_drewN ?_ _ | refine blk_drew ?_ | refine blk_alloc ?_ _)); refine blk_put (cs := #[.int .i64 0, .int .i64 0, .int .i64 0, .int .i64 0, .int .i64 0]) ?_ 1 _ rfl; (with_reducible repeat (first | refine blk_drewN ?_ _ | refine blk_drew ?_ | refine blk_alloc ?_ _)); refine blk_put (cs := #[.int .i64 0, .int .i64 0, .int .i64 0, .int .i64 0, .int .i64 0]) ?_ 0 _ rfl; (with_reducible repeat (first | refine blk_drewN ?_ _ | refine blk_drew ?_ | refine blk_alloc ?_ _)); exact BR.out) Tryz.underlying23 rfl (by kernel_rfl)) rfl ?_
              exact ⟨rfl, (by repeat (first | (with_reducible first | exact HB.out | apply below_alloc | apply pw_below_drewN | apply below_drew1 | refine below_set ?_ GR.out) | exact HB.out))⟩
        · replace hB : (dP q5).2 = false := Bool.eq_false_iff.mpr hB
          have hz := HBAD.out (fun h => by have := (h (dP q5) (by simp)).1; rw [hB] at this; cases this)
          simp only [Prod.mk.injEq] at hz
          obtain ⟨rfl, rfl, rfl, rfl, rfl, rfl⟩ := hz
          clear h00 h01
          go_wp2_with (first | (go_at_call 21; (with_reducible refine (dP_call q5 (HSZ.out q5 (by simp)) _ (GInv2.below HG.out (by repeat (first | (with_reducible first | exact HB.out | apply below_alloc | apply pw_below_drewN | apply below_drew1 | refine below_set ?_ GB.out | refine below_set ?_ GR.out) | exact HB.out | refine below_set ?_ GB.out | refine below_set ?_ GR.out))).one).mono ?_); rintro e w8 ⟨rfl, hb⟩; have n1_ := Aside0.mk (blk_below (g := gR) (o := .cells #[.int .i64 0, .int .i64 0, .int .i64 0, .int .i64 0, .int .i64 0] 23 (0, 0)) (by (with_reducible repeat (first | refine blk_drewN ?_ _ | refine blk_drew ?_ | refine blk_alloc ?_ _)); exact BR.out) hb); have n2_ := Aside0.mk (blk_below (g := gB) (o := .cells (mArr [(dP q1).1 / 10000, (dP q3).1 / 10000, (dP q5).1 / 10000, (dP q7).1 / 10000, (dP q9).1 / 10000] 2) 66 (0, 0)) (by (with_reducible repeat (first | refine blk_drewN ?_ _ | refine blk_drew ?_ | refine blk_alloc ?_ _)); exact BB.out) hb); have n3_ := Aside0.mk (blk_below (g := gF) (o := .cells #[.string q0, .string q1, .string q2, .string q3, .string q4, .string q5, .string q6, .string q7, .string q8, .string q9] 9 (0, 0)) (by (with_reducible repeat (first | refine blk_drewN ?_ _ | refine blk_drew ?_ | refine blk_alloc ?_ _)); exact BF.out) hb); have n0_ := Aside0.mk (below_step (by repeat (first | (with_reducible first | exact HB.out | apply below_alloc | apply pw_below_drewN | apply below_drew1 | refine below_set ?_ GB.out | refine below_set ?_ GR.out) | exact HB.out | refine below_set ?_ GB.out | refine below_set ?_ GR.out)) hb); clear HB BR BB BF; have HB := n0_; have BR := n1_; have BB := n2_; have BF := n3_; clear n0_ n1_ n2_ n3_ hb; (try clear hF); have hz0 : w8.cell? ⟨gR, 0, none⟩ = some (.int .i64 0) := (blk_cell BR.out 0).trans rfl; have hfz0 : w8.frozen? ⟨gR, 0, none⟩ = false := blk_frozen BR.out 0; have hz1 : w8.cell? ⟨gR, 1, none⟩ = some (.int .i64 0) := (blk_cell BR.out 1).trans rfl; have hfz1 : w8.frozen? ⟨gR, 1, none⟩ = false := blk_frozen BR.out 1; have hz2 : w8.cell? ⟨gR, 2, none⟩ = some (.int .i64 0) := (blk_cell BR.out 2).trans rfl; have hfz2 : w8.frozen? ⟨gR, 2, none⟩ = false := blk_frozen BR.out 2; have hz3 : w8.cell? ⟨gR, 3, none⟩ = some (.int .i64 0) := (blk_cell BR.out 3).trans rfl; have hfz3 : w8.frozen? ⟨gR, 3, none⟩ = false := blk_frozen BR.out 3; have hz4 : w8.cell? ⟨gR, 4, none⟩ = some (.int .i64 0) := (blk_cell BR.out 4).trans rfl; have hfz4 : w8.frozen? ⟨gR, 4, none⟩ = false := blk_frozen BR.out 4; have hy0 : w8.cell? ⟨gB, 0, none⟩ = some (.int .i64 ((dP q1).1 / 10000)) := (blk_cell BB.out 0).trans rfl; have hfy0 : w8.frozen? ⟨gB, 0, none⟩ = false := blk_frozen BB.out 0; have hy1 : w8.cell? ⟨gB, 1, none⟩ = some (.int .i64 ((dP q3).1 / 10000)) := (blk_cell BB.out 1).trans rfl; have hfy1 : w8.frozen? ⟨gB, 1, none⟩ = false := blk_frozen BB.out 1; have hy2 : w8.cell? ⟨gB, 2, none⟩ = some (.int .i64 0) := (blk_cell BB.out 2).trans rfl; have hfy2 : w8.frozen? ⟨gB, 2, none⟩ = false := blk_frozen BB.out 2; have hy3 : w8.cell? ⟨gB, 3, none⟩ = some (.int .i64 0) := (blk_cell BB.out 3).trans rfl; have hfy3 : w8.frozen? ⟨gB, 3, none⟩ = false := blk_frozen BB.out 3; have hy4 : w8.cell? ⟨gB, 4, none⟩ = some (.int .i64 0) := (blk_cell BB.out 4).trans rfl; have hfy4 : w8.frozen? ⟨gB, 4, none⟩ = false := blk_frozen BB.out 4))
          refine bodyPost_ret (results_ct rfl _ _ gR 23 #[.int .i64 0, .int .i64 0, .int .i64 0, .int .i64 0, .int .i64 0] (0, 0) _ rfl (by (with_reducible repeat (first | refine blk_drewN ?_ _ | refine blk_drew ?_ | refine blk_alloc ?_ _)); refine blk_put (cs := #[.int .i64 0, .int .i64 0, .int .i64 0, .int .i64 0, .int .i64 0]) ?_ 4 _ rfl; (with_reducible repeat (first | refine blk_drewN ?_ _ | refine blk_drew ?_ | refine blk_alloc ?_ _)); refine blk_put (cs := #[.int .i64 0, .int .i64 0, .int .i64 0, .int .i64 0, .int .i64 0]) ?_ 3 _ rfl; (with_reducible repeat (first | refine blk_drewN ?_ _ | refine blk_drew ?_ | refine blk_alloc ?_ _)); refine blk_put (cs := #[.int .i64 0, .int .i64 0, .int .i64 0, .int .i64 0, .int .i64 0]) ?_ 2 _ rfl; (with_reducible repeat (first | refine blk_drewN ?_ _ | refine blk_drew ?_ | refine blk_alloc ?_ _)); refine blk_put (cs := #[.int .i64 0, .int .i64 0, .int .i64 0, .int .i64 0, .int .i64 0]) ?_ 1 _ rfl; (with_reducible repeat (first | refine blk_drewN ?_ _ | refine blk_drew ?_ | refine blk_alloc ?_ _)); refine blk_put (cs := #[.int .i64 0, .int .i64 0, .int .i64 0, .int .i64 0, .int .i64 0]) ?_ 0 _ rfl; (with_reducible repeat (first | refine blk_drewN ?_ _ | refine blk_drew ?_ | refine blk_alloc ?_ _)); exact BR.out) Tryz.underlying23 rfl (by kernel_rfl)) rfl ?_
          exact ⟨rfl, (by repeat (first | (with_reducible first | exact HB.out | apply below_alloc | apply pw_below_drewN | apply below_drew1 | refine below_set ?_ GR.out) | exact HB.out))⟩
      · have hF : wr.cell? ⟨gF, 7, none⟩ = some (.string q7) := (blk_cell BF.out 7).trans rfl
        have h00 : -9223372036854775807 ≤ (dP q7).1 := (dP_spec q7 (HSZ.out q7 (by simp))).2.1
        have h01 : (dP q7).1 ≤ 9223372036854775807 := (dP_spec q7 (HSZ.out q7 (by simp))).2.2
        by_cases hB : (dP q7).2 = true
        · by_cases hneg : (dP q7).1 < 0
          · have c0 : decide ((dP q7).1 < 0) = true := decide_eq_true hneg
            have hz := HBAD.out (fun h => by have := (h (dP q7) (by simp)).2.1; omega)
            simp only [Prod.mk.injEq] at hz
            obtain ⟨rfl, rfl, rfl, rfl, rfl, rfl⟩ := hz
            clear h00 h01
            go_wp2_with (first | (go_at_call 21; (with_reducible refine (dP_call q7 (HSZ.out q7 (by simp)) _ (GInv2.below HG.out (by repeat (first | (with_reducible first | exact HB.out | apply below_alloc | apply pw_below_drewN | apply below_drew1 | refine below_set ?_ GB.out | refine below_set ?_ GR.out) | exact HB.out | refine below_set ?_ GB.out | refine below_set ?_ GR.out))).one).mono ?_); rintro e w8 ⟨rfl, hb⟩; have n1_ := Aside0.mk (blk_below (g := gR) (o := .cells #[.int .i64 0, .int .i64 0, .int .i64 0, .int .i64 0, .int .i64 0] 23 (0, 0)) (by (with_reducible repeat (first | refine blk_drewN ?_ _ | refine blk_drew ?_ | refine blk_alloc ?_ _)); exact BR.out) hb); have n2_ := Aside0.mk (blk_below (g := gB) (o := .cells (mArr [(dP q1).1 / 10000, (dP q3).1 / 10000, (dP q5).1 / 10000, (dP q7).1 / 10000, (dP q9).1 / 10000] 3) 66 (0, 0)) (by (with_reducible repeat (first | refine blk_drewN ?_ _ | refine blk_drew ?_ | refine blk_alloc ?_ _)); exact BB.out) hb); have n3_ := Aside0.mk (blk_below (g := gF) (o := .cells #[.string q0, .string q1, .string q2, .string q3, .string q4, .string q5, .string q6, .string q7, .string q8, .string q9] 9 (0, 0)) (by (with_reducible repeat (first | refine blk_drewN ?_ _ | refine blk_drew ?_ | refine blk_alloc ?_ _)); exact BF.out) hb); have n0_ := Aside0.mk (below_step (by repeat (first | (with_reducible first | exact HB.out | apply below_alloc | apply pw_below_drewN | apply below_drew1 | refine below_set ?_ GB.out | refine below_set ?_ GR.out) | exact HB.out | refine below_set ?_ GB.out | refine below_set ?_ GR.out)) hb); clear HB BR BB BF; have HB := n0_; have BR := n1_; have BB := n2_; have BF := n3_; clear n0_ n1_ n2_ n3_ hb; (try clear hF); have hz0 : w8.cell? ⟨gR, 0, none⟩ = some (.int .i64 0) := (blk_cell BR.out 0).trans rfl; have hfz0 : w8.frozen? ⟨gR, 0, none⟩ = false := blk_frozen BR.out 0; have hz1 : w8.cell? ⟨gR, 1, none⟩ = some (.int .i64 0) := (blk_cell BR.out 1).trans rfl; have hfz1 : w8.frozen? ⟨gR, 1, none⟩ = false := blk_frozen BR.out 1; have hz2 : w8.cell? ⟨gR, 2, none⟩ = some (.int .i64 0) := (blk_cell BR.out 2).trans rfl; have hfz2 : w8.frozen? ⟨gR, 2, none⟩ = false := blk_frozen BR.out 2; have hz3 : w8.cell? ⟨gR, 3, none⟩ = some (.int .i64 0) := (blk_cell BR.out 3).trans rfl; have hfz3 : w8.frozen? ⟨gR, 3, none⟩ = false := blk_frozen BR.out 3; have hz4 : w8.cell? ⟨gR, 4, none⟩ = some (.int .i64 0) := (blk_cell BR.out 4).trans rfl; have hfz4 : w8.frozen? ⟨gR, 4, none⟩ = false := blk_frozen BR.out 4; have hy0 : w8.cell? ⟨gB, 0, none⟩ = some (.int .i64 ((dP q1).1 / 10000)) := (blk_cell BB.out 0).trans rfl; have hfy0 : w8.frozen? ⟨gB, 0, none⟩ = false := blk_frozen BB.out 0; have hy1 : w8.cell? ⟨gB, 1, none⟩ = some (.int .i64 ((dP q3).1 / 10000)) := (blk_cell BB.out 1).trans rfl; have hfy1 : w8.frozen? ⟨gB, 1, none⟩ = false := blk_frozen BB.out 1; have hy2 : w8.cell? ⟨gB, 2, none⟩ = some (.int .i64 ((dP q5).1 / 10000)) := (blk_cell BB.out 2).trans rfl; have hfy2 : w8.frozen? ⟨gB, 2, none⟩ = false := blk_frozen BB.out 2; have hy3 : w8.cell? ⟨gB, 3, none⟩ = some (.int .i64 0) := (blk_cell BB.out 3).trans rfl; have hfy3 : w8.frozen? ⟨gB, 3, none⟩ = false := blk_frozen BB.out 3; have hy4 : w8.cell? ⟨gB, 4, none⟩ = some (.int .i64 0) := (blk_cell BB.out 4).trans rfl; have hfy4 : w8.frozen? ⟨gB, 4, none⟩ = false := blk_frozen BB.out 4))
            refine bodyPost_ret (results_ct rfl _ _ gR 23 #[.int .i64 0, .int .i64 0, .int .i64 0, .int .i64 0, .int .i64 0] (0, 0) _ rfl (by (with_reducible repeat (first | refine blk_drewN ?_ _ | refine blk_drew ?_ | refine blk_alloc ?_ _)); refine blk_put (cs := #[.int .i64 0, .int .i64 0, .int .i64 0, .int .i64 0, .int .i64 0]) ?_ 4 _ rfl; (with_reducible repeat (first | refine blk_drewN ?_ _ | refine blk_drew ?_ | refine blk_alloc ?_ _)); refine blk_put (cs := #[.int .i64 0, .int .i64 0, .int .i64 0, .int .i64 0, .int .i64 0]) ?_ 3 _ rfl; (with_reducible repeat (first | refine blk_drewN ?_ _ | refine blk_drew ?_ | refine blk_alloc ?_ _)); refine blk_put (cs := #[.int .i64 0, .int .i64 0, .int .i64 0, .int .i64 0, .int .i64 0]) ?_ 2 _ rfl; (with_reducible repeat (first | refine blk_drewN ?_ _ | refine blk_drew ?_ | refine blk_alloc ?_ _)); refine blk_put (cs := #[.int .i64 0, .int .i64 0, .int .i64 0, .int .i64 0, .int .i64 0]) ?_ 1 _ rfl; (with_reducible repeat (first | refine blk_drewN ?_ _ | refine blk_drew ?_ | refine blk_alloc ?_ _)); refine blk_put (cs := #[.int .i64 0, .int .i64 0, .int .i64 0, .int .i64 0, .int .i64 0]) ?_ 0 _ rfl; (with_reducible repeat (first | refine blk_drewN ?_ _ | refine blk_drew ?_ | refine blk_alloc ?_ _)); exact BR.out) Tryz.underlying23 rfl (by kernel_rfl)) rfl ?_
            exact ⟨rfl, (by repeat (first | (with_reducible first | exact HB.out | apply below_alloc | apply pw_below_drewN | apply below_drew1 | refine below_set ?_ GR.out) | exact HB.out))⟩
          · have c0 : decide ((dP q7).1 < 0) = false := decide_eq_false hneg
            have c1 : Int.tmod (dP q7).1 10000 = (dP q7).1 % 10000 := tmd (by omega)
            by_cases hrem : (dP q7).1 % 10000 = 0
            · have c2 : ((dP q7).1 % 10000 != 0) = false := bne_eq_false_iff_eq.mpr hrem
              have c3 : Int.tdiv (dP q7).1 10000 = (dP q7).1 / 10000 := tdv (by omega)
              have c4 : wrap64 ((dP q7).1 / 10000) = (dP q7).1 / 10000 := w64_ (by omega) (by omega)
              have HO := Aside0.mk (show okN (dP q7) from ⟨hB, by omega, hrem⟩)
              clear h00 h01 hneg hrem
              go_wp2_with (first | (go_at_call 21; (with_reducible refine (dP_call q7 (HSZ.out q7 (by simp)) _ (GInv2.below HG.out (by repeat (first | (with_reducible first | exact HB.out | apply below_alloc | apply pw_below_drewN | apply below_drew1 | refine below_set ?_ GB.out | refine below_set ?_ GR.out) | exact HB.out | refine below_set ?_ GB.out | refine below_set ?_ GR.out))).one).mono ?_); rintro e w8 ⟨rfl, hb⟩; have n1_ := Aside0.mk (blk_below (g := gR) (o := .cells #[.int .i64 0, .int .i64 0, .int .i64 0, .int .i64 0, .int .i64 0] 23 (0, 0)) (by (with_reducible repeat (first | refine blk_drewN ?_ _ | refine blk_drew ?_ | refine blk_alloc ?_ _)); exact BR.out) hb); have n2_ := Aside0.mk (blk_below (g := gB) (o := .cells (mArr [(dP q1).1 / 10000, (dP q3).1 / 10000, (dP q5).1 / 10000, (dP q7).1 / 10000, (dP q9).1 / 10000] 3) 66 (0, 0)) (by (with_reducible repeat (first | refine blk_drewN ?_ _ | refine blk_drew ?_ | refine blk_alloc ?_ _)); exact BB.out) hb); have n3_ := Aside0.mk (blk_below (g := gF) (o := .cells #[.string q0, .string q1, .string q2, .string q3, .string q4, .string q5, .string q6, .string q7, .string q8, .string q9] 9 (0, 0)) (by (with_reducible repeat (first | refine blk_drewN ?_ _ | refine blk_drew ?_ | refine blk_alloc ?_ _)); exact BF.out) hb); have n0_ := Aside0.mk (below_step (by repeat (first | (with_reducible first | exact HB.out | apply below_alloc | apply pw_below_drewN | apply below_drew1 | refine below_set ?_ GB.out | refine below_set ?_ GR.out) | exact HB.out | refine below_set ?_ GB.out | refine below_set ?_ GR.out)) hb); clear HB BR BB BF; have HB := n0_; have BR := n1_; have BB := n2_; have BF := n3_; clear n0_ n1_ n2_ n3_ hb; (try clear hF); have hz0 : w8.cell? ⟨gR, 0, none⟩ = some (.int .i64 0) := (blk_cell BR.out 0).trans rfl; have hfz0 : w8.frozen? ⟨gR, 0, none⟩ = false := blk_frozen BR.out 0; have hz1 : w8.cell? ⟨gR, 1, none⟩ = some (.int .i64 0) := (blk_cell BR.out 1).trans rfl; have hfz1 : w8.frozen? ⟨gR, 1, none⟩ = false := blk_frozen BR.out 1; have hz2 : w8.cell? ⟨gR, 2, none⟩ = some (.int .i64 0) := (blk_cell BR.out 2).trans rfl; have hfz2 : w8.frozen? ⟨gR, 2, none⟩ = false := blk_frozen BR.out 2; have hz3 : w8.cell? ⟨gR, 3, none⟩ = some (.int .i64 0) := (blk_cell BR.out 3).trans rfl; have hfz3 : w8.frozen? ⟨gR, 3, none⟩ = false := blk_frozen BR.out 3; have hz4 : w8.cell? ⟨gR, 4, none⟩ = some (.int .i64 0) := (blk_cell BR.out 4).trans rfl; have hfz4 : w8.frozen? ⟨gR, 4, none⟩ = false := blk_frozen BR.out 4; have hy0 : w8.cell? ⟨gB, 0, none⟩ = some (.int .i64 ((dP q1).1 / 10000)) := (blk_cell BB.out 0).trans rfl; have hfy0 : w8.frozen? ⟨gB, 0, none⟩ = false := blk_frozen BB.out 0; have hy1 : w8.cell? ⟨gB, 1, none⟩ = some (.int .i64 ((dP q3).1 / 10000)) := (blk_cell BB.out 1).trans rfl; have hfy1 : w8.frozen? ⟨gB, 1, none⟩ = false := blk_frozen BB.out 1; have hy2 : w8.cell? ⟨gB, 2, none⟩ = some (.int .i64 ((dP q5).1 / 10000)) := (blk_cell BB.out 2).trans rfl; have hfy2 : w8.frozen? ⟨gB, 2, none⟩ = false := blk_frozen BB.out 2; have hy3 : w8.cell? ⟨gB, 3, none⟩ = some (.int .i64 0) := (blk_cell BB.out 3).trans rfl; have hfy3 : w8.frozen? ⟨gB, 3, none⟩ = false := blk_frozen BB.out 3; have hy4 : w8.cell? ⟨gB, 4, none⟩ = some (.int .i64 0) := (blk_cell BB.out 4).trans rfl; have hfy4 : w8.frozen? ⟨gB, 4, none⟩ = false := blk_frozen BB.out 4))
              go_roundg 1
              case measure => omega
              case rel => exact ⟨4, (by first | rfl | (simp; done)), ⟨by omega⟩, ⟨fun x hx => by
                have h2 : x ∈ ([dP q1, dP q3, dP q5, dP q7, dP q9]).take 3 ++ [dP q7] := hx
                rcases List.mem_append.1 h2 with h3 | h3
                · exact HI.out x h3
                · rw [List.mem_singleton.1 h3]; exact HO.out⟩, ⟨by (with_reducible repeat (first | refine blk_drewN ?_ _ | refine blk_drew ?_ | refine blk_alloc ?_ _)); refine blk_far ?_ (fun e => NE.out e.symm) _; (with_reducible repeat (first | refine blk_drewN ?_ _ | refine blk_drew ?_ | refine blk_alloc ?_ _)); exact BR.out⟩, ⟨by (with_reducible repeat (first | refine blk_drewN ?_ _ | refine blk_drew ?_ | refine blk_alloc ?_ _)); refine blk_put (cs := mArr [(dP q1).1 / 10000, (dP q3).1 / 10000, (dP q5).1 / 10000, (dP q7).1 / 10000, (dP q9).1 / 10000] 3) ?_ 3 _ rfl; (with_reducible repeat (first | refine blk_drewN ?_ _ | refine blk_drew ?_ | refine blk_alloc ?_ _)); exact BB.out⟩, ⟨by (with_reducible repeat (first | refine blk_drewN ?_ _ | refine blk_drew ?_ | refine blk_alloc ?_ _)); refine blk_far ?_ (fun e => NF.out e.symm) _; (with_reducible repeat (first | refine blk_drewN ?_ _ | refine blk_drew ?_ | refine blk_alloc ?_ _)); exact BF.out⟩, ⟨(by repeat (first | (with_reducible first | exact HB.out | apply below_alloc | apply pw_below_drewN | apply below_drew1 | refine below_set ?_ GB.out | refine below_set ?_ GR.out) | exact HB.out | refine below_set ?_ GB.out | refine below_set ?_ GR.out))⟩⟩
            · have c2 : ((dP q7).1 % 10000 != 0) = true := bne_iff_ne.mpr hrem
              have hz := HBAD.out (fun h => by exact hrem (h (dP q7) (by simp)).2.2)
              simp only [Prod.mk.injEq] at hz
              obtain ⟨rfl, rfl, rfl, rfl, rfl, rfl⟩ := hz
              clear h00 h01
              go_wp2_with (first | (go_at_call 21; (with_reducible refine (dP_call q7 (HSZ.out q7 (by simp)) _ (GInv2.below HG.out (by repeat (first | (with_reducible first | exact HB.out | apply below_alloc | apply pw_below_drewN | apply below_drew1 | refine below_set ?_ GB.out | refine below_set ?_ GR.out) | exact HB.out | refine below_set ?_ GB.out | refine below_set ?_ GR.out))).one).mono ?_); rintro e w8 ⟨rfl, hb⟩; have n1_ := Aside0.mk (blk_below (g := gR) (o := .cells #[.int .i64 0, .int .i64 0, .int .i64 0, .int .i64 0, .int .i64 0] 23 (0, 0)) (by (with_reducible repeat (first | refine blk_drewN ?_ _ | refine blk_drew ?_ | refine blk_alloc ?_ _)); exact BR.out) hb); have n2_ := Aside0.mk (blk_below (g := gB) (o := .cells (mArr [(dP q1).1 / 10000, (dP q3).1 / 10000, (dP q5).1 / 10000, (dP q7).1 / 10000, (dP q9).1 / 10000] 3) 66 (0, 0)) (by (with_reducible repeat (first | refine blk_drewN ?_ _ | refine blk_drew ?_ | refine blk_alloc ?_ _)); exact BB.out) hb); have n3_ := Aside0.mk (blk_below (g := gF) (o := .cells #[.string q0, .string q1, .string q2, .string q3, .string q4, .string q5, .string q6, .string q7, .string q8, .string q9] 9 (0, 0)) (by (with_reducible repeat (first | refine blk_drewN ?_ _ | refine blk_drew ?_ | refine blk_alloc ?_ _)); exact BF.out) hb); have n0_ := Aside0.mk (below_step (by repeat (first | (with_reducible first | exact HB.out | apply below_alloc | apply pw_below_drewN | apply below_drew1 | refine below_set ?_ GB.out | refine below_set ?_ GR.out) | exact HB.out | refine below_set ?_ GB.out | refine below_set ?_ GR.out)) hb); clear HB BR BB BF; have HB := n0_; have BR := n1_; have BB := n2_; have BF := n3_; clear n0_ n1_ n2_ n3_ hb; (try clear hF); have hz0 : w8.cell? ⟨gR, 0, none⟩ = some (.int .i64 0) := (blk_cell BR.out 0).trans rfl; have hfz0 : w8.frozen? ⟨gR, 0, none⟩ = false := blk_frozen BR.out 0; have hz1 : w8.cell? ⟨gR, 1, none⟩ = some (.int .i64 0) := (blk_cell BR.out 1).trans rfl; have hfz1 : w8.frozen? ⟨gR, 1, none⟩ = false := blk_frozen BR.out 1; have hz2 : w8.cell? ⟨gR, 2, none⟩ = some (.int .i64 0) := (blk_cell BR.out 2).trans rfl; have hfz2 : w8.frozen? ⟨gR, 2, none⟩ = false := blk_frozen BR.out 2; have hz3 : w8.cell? ⟨gR, 3, none⟩ = some (.int .i64 0) := (blk_cell BR.out 3).trans rfl; have hfz3 : w8.frozen? ⟨gR, 3, none⟩ = false := blk_frozen BR.out 3; have hz4 : w8.cell? ⟨gR, 4, none⟩ = some (.int .i64 0) := (blk_cell BR.out 4).trans rfl; have hfz4 : w8.frozen? ⟨gR, 4, none⟩ = false := blk_frozen BR.out 4; have hy0 : w8.cell? ⟨gB, 0, none⟩ = some (.int .i64 ((dP q1).1 / 10000)) := (blk_cell BB.out 0).trans rfl; have hfy0 : w8.frozen? ⟨gB, 0, none⟩ = false := blk_frozen BB.out 0; have hy1 : w8.cell? ⟨gB, 1, none⟩ = some (.int .i64 ((dP q3).1 / 10000)) := (blk_cell BB.out 1).trans rfl; have hfy1 : w8.frozen? ⟨gB, 1, none⟩ = false := blk_frozen BB.out 1; have hy2 : w8.cell? ⟨gB, 2, none⟩ = some (.int .i64 ((dP q5).1 / 10000)) := (blk_cell BB.out 2).trans rfl; have hfy2 : w8.frozen? ⟨gB, 2, none⟩ = false := blk_frozen BB.out 2; have hy3 : w8.cell? ⟨gB, 3, none⟩ = some (.int .i64 0) := (blk_cell BB.out 3).trans rfl; have hfy3 : w8.frozen? ⟨gB, 3, none⟩ = false := blk_frozen BB.out 3; have hy4 : w8.cell? ⟨gB, 4, none⟩ = some (.int .i64 0) := (blk_cell BB.out 4).trans rfl; have hfy4 : w8.frozen? ⟨gB, 4, none⟩ = false := blk_frozen BB.out 4))
              refine bodyPost_ret (results_ct rfl _ _ gR 23 #[.int .i64 0, .int .i64 0, .int .i64 0, .int .i64 0, .int .i64 0] (0, 0) _ rfl (by (with_reducible repeat (first | refine blk_drewN ?_ _ | refine blk_drew ?_ | refine blk_alloc ?_ _)); refine blk_put (cs := #[.int .i64 0, .int .i64 0, .int .i64 0, .int .i64 0, .int .i64 0]) ?_ 4 _ rfl; (with_reducible repeat (first | refine blk_drewN ?_ _ | refine blk_drew ?_ | refine blk_alloc ?_ _)); refine blk_put (cs := #[.int .i64 0, .int .i64 0, .int .i64 0, .int .i64 0, .int .i64 0]) ?_ 3 _ rfl; (with_reducible repeat (first | refine blk_drewN ?_ _ | refine blk_drew ?_ | refine blk_alloc ?_ _)); refine blk_put (cs := #[.int .i64 0, .int .i64 0, .int .i64 0, .int .i64 0, .int .i64 0]) ?_ 2 _ rfl; (with_reducible repeat (first | refine blk_drewN ?_ _ | refine blk_drew ?_ | refine blk_alloc ?_ _)); refine blk_put (cs := #[.int .i64 0, .int .i64 0, .int .i64 0, .int .i64 0, .int .i64 0]) ?_ 1 _ rfl; (with_reducible repeat (first | refine blk_drewN ?_ _ | refine blk_drew ?_ | refine blk_alloc ?_ _)); refine blk_put (cs := #[.int .i64 0, .int .i64 0, .int .i64 0, .int .i64 0, .int .i64 0]) ?_ 0 _ rfl; (with_reducible repeat (first | refine blk_drewN ?_ _ | refine blk_drew ?_ | refine blk_alloc ?_ _)); exact BR.out) Tryz.underlying23 rfl (by kernel_rfl)) rfl ?_
              exact ⟨rfl, (by repeat (first | (with_reducible first | exact HB.out | apply below_alloc | apply pw_below_drewN | apply below_drew1 | refine below_set ?_ GR.out) | exact HB.out))⟩
        · replace hB : (dP q7).2 = false := Bool.eq_false_iff.mpr hB
          have hz := HBAD.out (fun h => by have := (h (dP q7) (by simp)).1; rw [hB] at this; cases this)
          simp only [Prod.mk.injEq] at hz
          obtain ⟨rfl, rfl, rfl, rfl, rfl, rfl⟩ := hz
          clear h00 h01
          go_wp2_with (first | (go_at_call 21; (with_reducible refine (dP_call q7 (HSZ.out q7 (by simp)) _ (GInv2.below HG.out (by repeat (first | (with_reducible first | exact HB.out | apply below_alloc | apply pw_below_drewN | apply below_drew1 | refine below_set ?_ GB.out | refine below_set ?_ GR.out) | exact HB.out | refine below_set ?_ GB.out | refine below_set ?_ GR.out))).one).mono ?_); rintro e w8 ⟨rfl, hb⟩; have n1_ := Aside0.mk (blk_below (g := gR) (o := .cells #[.int .i64 0, .int .i64 0, .int .i64 0, .int .i64 0, .int .i64 0] 23 (0, 0)) (by (with_reducible repeat (first | refine blk_drewN ?_ _ | refine blk_drew ?_ | refine blk_alloc ?_ _)); exact BR.out) hb); have n2_ := Aside0.mk (blk_below (g := gB) (o := .cells (mArr [(dP q1).1 / 10000, (dP q3).1 / 10000, (dP q5).1 / 10000, (dP q7).1 / 10000, (dP q9).1 / 10000] 3) 66 (0, 0)) (by (with_reducible repeat (first | refine blk_drewN ?_ _ | refine blk_drew ?_ | refine blk_alloc ?_ _)); exact BB.out) hb); have n3_ := Aside0.mk (blk_below (g := gF) (o := .cells #[.string q0, .string q1, .string q2, .string q3, .string q4, .string q5, .string q6, .string q7, .string q8, .string q9] 9 (0, 0)) (by (with_reducible repeat (first | refine blk_drewN ?_ _ | refine blk_drew ?_ | refine blk_alloc ?_ _)); exact BF.out) hb); have n0_ := Aside0.mk (below_step (by repeat (first | (with_reducible first | exact HB.out | apply below_alloc | apply pw_below_drewN | apply below_drew1 | refine below_set ?_ GB.out | refine below_set ?_ GR.out) | exact HB.out | refine below_set ?_ GB.out | refine below_set ?_ GR.out)) hb); clear HB BR BB BF; have HB := n0_; have BR := n1_; have BB := n2_; have BF := n3_; clear n0_ n1_ n2_ n3_ hb; (try clear hF); have hz0 : w8.cell? ⟨gR, 0, none⟩ = some (.int .i64 0) := (blk_cell BR.out 0).trans rfl; have hfz0 : w8.frozen? ⟨gR, 0, none⟩ = false := blk_frozen BR.out 0; have hz1 : w8.cell? ⟨gR, 1, none⟩ = some (.int .i64 0) := (blk_cell BR.out 1).trans rfl; have hfz1 : w8.frozen? ⟨gR, 1, none⟩ = false := blk_frozen BR.out 1; have hz2 : w8.cell? ⟨gR, 2, none⟩ = some (.int .i64 0) := (blk_cell BR.out 2).trans rfl; have hfz2 : w8.frozen? ⟨gR, 2, none⟩ = false := blk_frozen BR.out 2; have hz3 : w8.cell? ⟨gR, 3, none⟩ = some (.int .i64 0) := (blk_cell BR.out 3).trans rfl; have hfz3 : w8.frozen? ⟨gR, 3, none⟩ = false := blk_frozen BR.out 3; have hz4 : w8.cell? ⟨gR, 4, none⟩ = some (.int .i64 0) := (blk_cell BR.out 4).trans rfl; have hfz4 : w8.frozen? ⟨gR, 4, none⟩ = false := blk_frozen BR.out 4; have hy0 : w8.cell? ⟨gB, 0, none⟩ = some (.int .i64 ((dP q1).1 / 10000)) := (blk_cell BB.out 0).trans rfl; have hfy0 : w8.frozen? ⟨gB, 0, none⟩ = false := blk_frozen BB.out 0; have hy1 : w8.cell? ⟨gB, 1, none⟩ = some (.int .i64 ((dP q3).1 / 10000)) := (blk_cell BB.out 1).trans rfl; have hfy1 : w8.frozen? ⟨gB, 1, none⟩ = false := blk_frozen BB.out 1; have hy2 : w8.cell? ⟨gB, 2, none⟩ = some (.int .i64 ((dP q5).1 / 10000)) := (blk_cell BB.out 2).trans rfl; have hfy2 : w8.frozen? ⟨gB, 2, none⟩ = false := blk_frozen BB.out 2; have hy3 : w8.cell? ⟨gB, 3, none⟩ = some (.int .i64 0) := (blk_cell BB.out 3).trans rfl; have hfy3 : w8.frozen? ⟨gB, 3, none⟩ = false := blk_frozen BB.out 3; have hy4 : w8.cell? ⟨gB, 4, none⟩ = some (.int .i64 0) := (blk_cell BB.out 4).trans rfl; have hfy4 : w8.frozen? ⟨gB, 4, none⟩ = false := blk_frozen BB.out 4))
          refine bodyPost_ret (results_ct rfl _ _ gR 23 #[.int .i64 0, .int .i64 0, .int .i64 0, .int .i64 0, .int .i64 0] (0, 0) _ rfl (by (with_reducible repeat (first | refine blk_drewN ?_ _ | refine blk_drew ?_ | refine blk_alloc ?_ _)); refine blk_put (cs := #[.int .i64 0, .int .i64 0, .int .i64 0, .int .i64 0, .int .i64 0]) ?_ 4 _ rfl; (with_reducible repeat (first | refine blk_drewN ?_ _ | refine blk_drew ?_ | refine blk_alloc ?_ _)); refine blk_put (cs := #[.int .i64 0, .int .i64 0, .int .i64 0, .int .i64 0, .int .i64 0]) ?_ 3 _ rfl; (with_reducible repeat (first | refine blk_drewN ?_ _ | refine blk_drew ?_ | refine blk_alloc ?_ _)); refine blk_put (cs := #[.int .i64 0, .int .i64 0, .int .i64 0, .int .i64 0, .int .i64 0]) ?_ 2 _ rfl; (with_reducible repeat (first | refine blk_drewN ?_ _ | refine blk_drew ?_ | refine blk_alloc ?_ _)); refine blk_put (cs := #[.int .i64 0, .int .i64 0, .int .i64 0, .int .i64 0, .int .i64 0]) ?_ 1 _ rfl; (with_reducible repeat (first | refine blk_drewN ?_ _ | refine blk_drew ?_ | refine blk_alloc ?_ _)); refine blk_put (cs := #[.int .i64 0, .int .i64 0, .int .i64 0, .int .i64 0, .int .i64 0]) ?_ 0 _ rfl; (with_reducible repeat (first | refine blk_drewN ?_ _ | refine blk_drew ?_ | refine blk_alloc ?_ _)); exact BR.out) Tryz.underlying23 rfl (by kernel_rfl)) rfl ?_
          exact ⟨rfl, (by repeat (first | (with_reducible first | exact HB.out | apply below_alloc | apply pw_below_drewN | apply below_drew1 | refine below_set ?_ GR.out) | exact HB.out))⟩
      · have hF : wr.cell? ⟨gF, 9, none⟩ = some (.string q9) := (blk_cell BF.out 9).trans rfl
        have h00 : -9223372036854775807 ≤ (dP q9).1 := (dP_spec q9 (HSZ.out q9 (by simp))).2.1
        have h01 : (dP q9).1 ≤ 9223372036854775807 := (dP_spec q9 (HSZ.out q9 (by simp))).2.2
        by_cases hB : (dP q9).2 = true
        · by_cases hneg : (dP q9).1 < 0
          · have c0 : decide ((dP q9).1 < 0) = true := decide_eq_true hneg
            have hz := HBAD.out (fun h => by have := (h (dP q9) (by simp)).2.1; omega)
            simp only [Prod.mk.injEq] at hz
            obtain ⟨rfl, rfl, rfl, rfl, rfl, rfl⟩ := hz
            clear h00 h01
            go_wp2_with (first | (go_at_call 21; (with_reducible refine (dP_call q9 (HSZ.out q9 (by simp)) _ (GInv2.below HG.out (by repeat (first | (with_reducible first | exact HB.out | apply below_alloc | apply pw_below_drewN | apply below_drew1 | refine below_set ?_ GB.out | refine below_set ?_ GR.out) | exact HB.out | refine below_set ?_ GB.out | refine below_set ?_ GR.out))).one).mono ?_); rintro e w8 ⟨rfl, hb⟩; have n1_ := Aside0.mk (blk_below (g := gR) (o := .cells #[.int .i64 0, .int .i64 0, .int .i64 0, .int .i64 0, .int .i64 0] 23 (0, 0)) (by (with_reducible repeat (first | refine blk_drewN ?_ _ | refine blk_drew ?_ | refine blk_alloc ?_ _)); exact BR.out) hb); have n2_ := Aside0.mk (blk_below (g := gB) (o := .cells (mArr [(dP q1).1 / 10000, (dP q3).1 / 10000, (dP q5).1 / 10000, (dP q7).1 / 10000, (dP q9).1 / 10000] 4) 66 (0, 0)) (by (with_reducible repeat (first | refine blk_drewN ?_ _ | refine blk_drew ?_ | refine blk_alloc ?_ _)); exact BB.out) hb); have n3_ := Aside0.mk (blk_below (g := gF) (o := .cells #[.string q0, .string q1, .string q2, .string q3, .string q4, .string q5, .string q6, .string q7, .string q8, .string q9] 9 (0, 0)) (by (with_reducible repeat (first | refine blk_drewN ?_ _ | refine blk_drew ?_ | refine blk_alloc ?_ _)); exact BF.out) hb); have n0_ := Aside0.mk (below_step (by repeat (first | (with_reducible first | exact HB.out | apply below_alloc | apply pw_below_drewN | apply below_drew1 | refine below_set ?_ GB.out | refine below_set ?_ GR.out) | exact HB.out | refine below_set ?_ GB.out | refine below_set ?_ GR.out)) hb); clear HB BR BB BF; have HB := n0_; have BR := n1_; have BB := n2_; have BF := n3_; clear n0_ n1_ n2_ n3_ hb; (try clear hF); have hz0 : w8.cell? ⟨gR, 0, none⟩ = some (.int .i64 0) := (blk_cell BR.out 0).trans rfl; have hfz0 : w8.frozen? ⟨gR, 0, none⟩ = false := blk_frozen BR.out 0; have hz1 : w8.cell? ⟨gR, 1, none⟩ = some (.int .i64 0) := (blk_cell BR.out 1).trans rfl; have hfz1 : w8.frozen? ⟨gR, 1, none⟩ = false := blk_frozen BR.out 1; have hz2 : w8.cell? ⟨gR, 2, none⟩ = some (.int .i64 0) := (blk_cell BR.out 2).trans rfl; have hfz2 : w8.frozen? ⟨gR, 2, none⟩ = false := blk_frozen BR.out 2; have hz3 : w8.cell? ⟨gR, 3, none⟩ = some (.int .i64 0) := (blk_cell BR.out 3).trans rfl; have hfz3 : w8.frozen? ⟨gR, 3, none⟩ = false := blk_frozen BR.out 3; have hz4 : w8.cell? ⟨gR, 4, none⟩ = some (.int .i64 0) := (blk_cell BR.out 4).trans rfl; have hfz4 : w8.frozen? ⟨gR, 4, none⟩ = false := blk_frozen BR.out 4; have hy0 : w8.cell? ⟨gB, 0, none⟩ = some (.int .i64 ((dP q1).1 / 10000)) := (blk_cell BB.out 0).trans rfl; have hfy0 : w8.frozen? ⟨gB, 0, none⟩ = false := blk_frozen BB.out 0; have hy1 : w8.cell? ⟨gB, 1, none⟩ = some (.int .i64 ((dP q3).1 / 10000)) := (blk_cell BB.out 1).trans rfl; have hfy1 : w8.frozen? ⟨gB, 1, none⟩ = false := blk_frozen BB.out 1; have hy2 : w8.cell? ⟨gB, 2, none⟩ = some (.int .i64 ((dP q5).1 / 10000)) := (blk_cell BB.out 2).trans rfl; have hfy2 : w8.frozen? ⟨gB, 2, none⟩ = false := blk_frozen BB.out 2; have hy3 : w8.cell? ⟨gB, 3, none⟩ = some (.int .i64 ((dP q7).1 / 10000)) := (blk_cell BB.out 3).trans rfl; have hfy3 : w8.frozen? ⟨gB, 3, none⟩ = false := blk_frozen BB.out 3; have hy4 : w8.cell? ⟨gB, 4, none⟩ = some (.int .i64 0) := (blk_cell BB.out 4).trans rfl; have hfy4 : w8.frozen? ⟨gB, 4, none⟩ = false := blk_frozen BB.out 4))
            refine bodyPost_ret (results_ct rfl _ _ gR 23 #[.int .i64 0, .int .i64 0, .int .i64 0, .int .i64 0, .int .i64 0] (0, 0) _ rfl (by (with_reducible repeat (first | refine blk_drewN ?_ _ | refine blk_drew ?_ | refine blk_alloc ?_ _)); refine blk_put (cs := #[.int .i64 0, .int .i64 0, .int .i64 0, .int .i64 0, .int .i64 0]) ?_ 4 _ rfl; (with_reducible repeat (first | refine blk_drewN ?_ _ | refine blk_drew ?_ | refine blk_alloc ?_ _)); refine blk_put (cs := #[.int .i64 0, .int .i64 0, .int .i64 0, .int .i64 0, .int .i64 0]) ?_ 3 _ rfl; (with_reducible repeat (first | refine blk_drewN ?_ _ | refine blk_drew ?_ | refine blk_alloc ?_ _)); refine blk_put (cs := #[.int .i64 0, .int .i64 0, .int .i64 0, .int .i64 0, .int .i64 0]) ?_ 2 _ rfl; (with_reducible repeat (first | refine blk_drewN ?_ _ | refine blk_drew ?_ | refine blk_alloc ?_ _)); refine blk_put (cs := #[.int .i64 0, .int .i64 0, .int .i64 0, .int .i64 0, .int .i64 0]) ?_ 1 _ rfl; (with_reducible repeat (first | refine blk_drewN ?_ _ | refine blk_drew ?_ | refine blk_alloc ?_ _)); refine blk_put (cs := #[.int .i64 0, .int .i64 0, .int .i64 0, .int .i64 0, .int .i64 0]) ?_ 0 _ rfl; (with_reducible repeat (first | refine blk_drewN ?_ _ | refine blk_drew ?_ | refine blk_alloc ?_ _)); exact BR.out) Tryz.underlying23 rfl (by kernel_rfl)) rfl ?_
            exact ⟨rfl, (by repeat (first | (with_reducible first | exact HB.out | apply below_alloc | apply pw_below_drewN | apply below_drew1 | refine below_set ?_ GR.out) | exact HB.out))⟩
          · have c0 : decide ((dP q9).1 < 0) = false := decide_eq_false hneg
            have c1 : Int.tmod (dP q9).1 10000 = (dP q9).1 % 10000 := tmd (by omega)
            by_cases hrem : (dP q9).1 % 10000 = 0
            · have c2 : ((dP q9).1 % 10000 != 0) = false := bne_eq_false_iff_eq.mpr hrem
              have c3 : Int.tdiv (dP q9).1 10000 = (dP q9).1 / 10000 := tdv (by omega)
              have c4 : wrap64 ((dP q9).1 / 10000) = (dP q9).1 / 10000 := w64_ (by omega) (by omega)
              have HO := Aside0.mk (show okN (dP q9) from ⟨hB, by omega, hrem⟩)
              clear h00 h01 hneg hrem
              go_wp2_with (first | (go_at_call 21; (with_reducible refine (dP_call q9 (HSZ.out q9 (by simp)) _ (GInv2.below HG.out (by repeat (first | (with_reducible first | exact HB.out | apply below_alloc | apply pw_below_drewN | apply below_drew1 | refine below_set ?_ GB.out | refine below_set ?_ GR.out) | exact HB.out | refine below_set ?_ GB.out | refine below_set ?_ GR.out))).one).mono ?_); rintro e w8 ⟨rfl, hb⟩; have n1_ := Aside0.mk (blk_below (g := gR) (o := .cells #[.int .i64 0, .int .i64 0, .int .i64 0, .int .i64 0, .int .i64 0] 23 (0, 0)) (by (with_reducible repeat (first | refine blk_drewN ?_ _ | refine blk_drew ?_ | refine blk_alloc ?_ _)); exact BR.out) hb); have n2_ := Aside0.mk (blk_below (g := gB) (o := .cells (mArr [(dP q1).1 / 10000, (dP q3).1 / 10000, (dP q5).1 / 10000, (dP q7).1 / 10000, (dP q9).1 / 10000] 4) 66 (0, 0)) (by (with_reducible repeat (first | refine blk_drewN ?_ _ | refine blk_drew ?_ | refine blk_alloc ?_ _)); exact BB.out) hb); have n3_ := Aside0.mk (blk_below (g := gF) (o := .cells #[.string q0, .string q1, .string q2, .string q3, .string q4, .string q5, .string q6, .string q7, .string q8, .string q9] 9 (0, 0)) (by (with_reducible repeat (first | refine blk_drewN ?_ _ | refine blk_drew ?_ | refine blk_alloc ?_ _)); exact BF.out) hb); have n0_ := Aside0.mk (below_step (by repeat (first | (with_reducible first | exact HB.out | apply below_alloc | apply pw_below_drewN | apply below_drew1 | refine below_set ?_ GB.out | refine below_set ?_ GR.out) | exact HB.out | refine below_set ?_ GB.out | refine below_set ?_ GR.out)) hb); clear HB BR BB BF; have HB := n0_; have BR := n1_; have BB := n2_; have BF := n3_; clear n0_ n1_ n2_ n3_ hb; (try clear hF); have hz0 : w8.cell? ⟨gR, 0, none⟩ = some (.int .i64 0) := (blk_cell BR.out 0).trans rfl; have hfz0 : w8.frozen? ⟨gR, 0, none⟩ = false := blk_frozen BR.out 0; have hz1 : w8.cell? ⟨gR, 1, none⟩ = some (.int .i64 0) := (blk_cell BR.out 1).trans rfl; have hfz1 : w8.frozen? ⟨gR, 1, none⟩ = false := blk_frozen BR.out 1; have hz2 : w8.cell? ⟨gR, 2, none⟩ = some (.int .i64 0) := (blk_cell BR.out 2).trans rfl; have hfz2 : w8.frozen? ⟨gR, 2, none⟩ = false := blk_frozen BR.out 2; have hz3 : w8.cell? ⟨gR, 3, none⟩ = some (.int .i64 0) := (blk_cell BR.out 3).trans rfl; have hfz3 : w8.frozen? ⟨gR, 3, none⟩ = false := blk_frozen BR.out 3; have hz4 : w8.cell? ⟨gR, 4, none⟩ = some (.int .i64 0) := (blk_cell BR.out 4).trans rfl; have hfz4 : w8.frozen? ⟨gR, 4, none⟩ = false := blk_frozen BR.out 4; have hy0 : w8.cell? ⟨gB, 0, none⟩ = some (.int .i64 ((dP q1).1 / 10000)) := (blk_cell BB.out 0).trans rfl; have hfy0 : w8.frozen? ⟨gB, 0, none⟩ = false := blk_frozen BB.out 0; have hy1 : w8.cell? ⟨gB, 1, none⟩ = some (.int .i64 ((dP q3).1 / 10000)) := (blk_cell BB.out 1).trans rfl; have hfy1 : w8.frozen? ⟨gB, 1, none⟩ = false := blk_frozen BB.out 1; have hy2 : w8.cell? ⟨gB, 2, none⟩ = some (.int .i64 ((dP q5).1 / 10000)) := (blk_cell BB.out 2).trans rfl; have hfy2 : w8.frozen? ⟨gB, 2, none⟩ = false := blk_frozen BB.out 2; have hy3 : w8.cell? ⟨gB, 3, none⟩ = some (.int .i64 ((dP q7).1 / 10000)) := (blk_cell BB.out 3).trans rfl; have hfy3 : w8.frozen? ⟨gB, 3, none⟩ = false := blk_frozen BB.out 3; have hy4 : w8.cell? ⟨gB, 4, none⟩ = some (.int .i64 0) := (blk_cell BB.out 4).trans rfl; have hfy4 : w8.frozen? ⟨gB, 4, none⟩ = false := blk_frozen BB.out 4))
              go_roundg 0
              case measure => omega
              case rel => exact ⟨5, (by first | rfl | (simp; done)), ⟨by omega⟩, ⟨fun x hx => by
                have h2 : x ∈ ([dP q1, dP q3, dP q5, dP q7, dP q9]).take 4 ++ [dP q9] := hx
                rcases List.mem_append.1 h2 with h3 | h3
                · exact HI.out x h3
                · rw [List.mem_singleton.1 h3]; exact HO.out⟩, ⟨by (with_reducible repeat (first | refine blk_drewN ?_ _ | refine blk_drew ?_ | refine blk_alloc ?_ _)); refine blk_far ?_ (fun e => NE.out e.symm) _; (with_reducible repeat (first | refine blk_drewN ?_ _ | refine blk_drew ?_ | refine blk_alloc ?_ _)); exact BR.out⟩, ⟨by (with_reducible repeat (first | refine blk_drewN ?_ _ | refine blk_drew ?_ | refine blk_alloc ?_ _)); refine blk_put (cs := mArr [(dP q1).1 / 10000, (dP q3).1 / 10000, (dP q5).1 / 10000, (dP q7).1 / 10000, (dP q9).1 / 10000] 4) ?_ 4 _ rfl; (with_reducible repeat (first | refine blk_drewN ?_ _ | refine blk_drew ?_ | refine blk_alloc ?_ _)); exact BB.out⟩, ⟨by (with_reducible repeat (first | refine blk_drewN ?_ _ | refine blk_drew ?_ | refine blk_alloc ?_ _)); refine blk_far ?_ (fun e => NF.out e.symm) _; (with_reducible repeat (first | refine blk_drewN ?_ _ | refine blk_drew ?_ | refine blk_alloc ?_ _)); exact BF.out⟩, ⟨(by repeat (first | (with_reducible first | exact HB.out | apply below_alloc | apply pw_below_drewN | apply below_drew1 | refine below_set ?_ GB.out | refine below_set ?_ GR.out) | exact HB.out | refine below_set ?_ GB.out | refine below_set ?_ GR.out))⟩⟩
            · have c2 : ((dP q9).1 % 10000 != 0) = true := bne_iff_ne.mpr hrem
              have hz := HBAD.out (fun h => by exact hrem (h (dP q9) (by simp)).2.2)
              simp only [Prod.mk.injEq] at hz
              obtain ⟨rfl, rfl, rfl, rfl, rfl, rfl⟩ := hz
              clear h00 h01
              go_wp2_with (first | (go_at_call 21; (with_reducible refine (dP_call q9 (HSZ.out q9 (by simp)) _ (GInv2.below HG.out (by repeat (first | (with_reducible first | exact HB.out | apply below_alloc | apply pw_below_drewN | apply below_drew1 | refine below_set ?_ GB.out | refine below_set ?_ GR.out) | exact HB.out | refine below_set ?_ GB.out | refine below_set ?_ GR.out))).one).mono ?_); rintro e w8 ⟨rfl, hb⟩; have n1_ := Aside0.mk (blk_below (g := gR) (o := .cells #[.int .i64 0, .int .i64 0, .int .i64 0, .int .i64 0, .int .i64 0] 23 (0, 0)) (by (with_reducible repeat (first | refine blk_drewN ?_ _ | refine blk_drew ?_ | refine blk_alloc ?_ _)); exact BR.out) hb); have n2_ := Aside0.mk (blk_below (g := gB) (o := .cells (mArr [(dP q1).1 / 10000, (dP q3).1 / 10000, (dP q5).1 / 10000, (dP q7).1 / 10000, (dP q9).1 / 10000] 4) 66 (0, 0)) (by (with_reducible repeat (first | refine blk_drewN ?_ _ | refine blk_drew ?_ | refine blk_alloc ?_ _)); exact BB.out) hb); have n3_ := Aside0.mk (blk_below (g := gF) (o := .cells #[.string q0, .string q1, .string q2, .string q3, .string q4, .string q5, .string q6, .string q7, .string q8, .string q9] 9 (0, 0)) (by (with_reducible repeat (first | refine blk_drewN ?_ _ | refine blk_drew ?_ | refine blk_alloc ?_ _)); exact BF.out) hb); have n0_ := Aside0.mk (below_step (by repeat (first | (with_reducible first | exact HB.out | apply below_alloc | apply pw_below_drewN | apply below_drew1 | refine below_set ?_ GB.out | refine below_set ?_ GR.out) | exact HB.out | refine below_set ?_ GB.out | refine below_set ?_ GR.out)) hb); clear HB BR BB BF; have HB := n0_; have BR := n1_; have BB := n2_; have BF := n3_; clear n0_ n1_ n2_ n3_ hb; (try clear hF); have hz0 : w8.cell? ⟨gR, 0, none⟩ = some (.int .i64 0) := (blk_cell BR.out 0).trans rfl; have hfz0 : w8.frozen? ⟨gR, 0, none⟩ = false := blk_frozen BR.out 0; have hz1 : w8.cell? ⟨gR, 1, none⟩ = some (.int .i64 0) := (blk_cell BR.out 1).trans rfl; have hfz1 : w8.frozen? ⟨gR, 1, none⟩ = false := blk_frozen BR.out 1; have hz2 : w8.cell? ⟨gR, 2, none⟩ = some (.int .i64 0) := (blk_cell BR.out 2).trans rfl; have hfz2 : w8.frozen? ⟨gR, 2, none⟩ = false := blk_frozen BR.out 2; have hz3 : w8.cell? ⟨gR, 3, none⟩ = some (.int .i64 0) := (blk_cell BR.out 3).trans rfl; have hfz3 : w8.frozen? ⟨gR, 3, none⟩ = false := blk_frozen BR.out 3; have hz4 : w8.cell? ⟨gR, 4, none⟩ = some (.int .i64 0) := (blk_cell BR.out 4).trans rfl; have hfz4 : w8.frozen? ⟨gR, 4, none⟩ = false := blk_frozen BR.out 4; have hy0 : w8.cell? ⟨gB, 0, none⟩ = some (.int .i64 ((dP q1).1 / 10000)) := (blk_cell BB.out 0).trans rfl; have hfy0 : w8.frozen? ⟨gB, 0, none⟩ = false := blk_frozen BB.out 0; have hy1 : w8.cell? ⟨gB, 1, none⟩ = some (.int .i64 ((dP q3).1 / 10000)) := (blk_cell BB.out 1).trans rfl; have hfy1 : w8.frozen? ⟨gB, 1, none⟩ = false := blk_frozen BB.out 1; have hy2 : w8.cell? ⟨gB, 2, none⟩ = some (.int .i64 ((dP q5).1 / 10000)) := (blk_cell BB.out 2).trans rfl; have hfy2 : w8.frozen? ⟨gB, 2, none⟩ = false := blk_frozen BB.out 2; have hy3 : w8.cell? ⟨gB, 3, none⟩ = some (.int .i64 ((dP q7).1 / 10000)) := (blk_cell BB.out 3).trans rfl; have hfy3 : w8.frozen? ⟨gB, 3, none⟩ = false := blk_frozen BB.out 3; have hy4 : w8.cell? ⟨gB, 4, none⟩ = some (.int .i64 0) := (blk_cell BB.out 4).trans rfl; have hfy4 : w8.frozen? ⟨gB, 4, none⟩ = false := blk_frozen BB.out 4))
              refine bodyPost_ret (results_ct rfl _ _ gR 23 #[.int .i64 0, .int .i64 0, .int .i64 0, .int .i64 0, .int .i64 0] (0, 0) _ rfl (by (with_reducible repeat (first | refine blk_drewN ?_ _ | refine blk_drew ?_ | refine blk_alloc ?_ _)); refine blk_put (cs := #[.int .i64 0, .int .i64 0, .int .i64 0, .int .i64 0, .int .i64 0]) ?_ 4 _ rfl; (with_reducible repeat (first | refine blk_drewN ?_ _ | refine blk_drew ?_ | refine blk_alloc ?_ _)); refine blk_put (cs := #[.int .i64 0, .int .i64 0, .int .i64 0, .int .i64 0, .int .i64 0]) ?_ 3 _ rfl; (with_reducible repeat (first | refine blk_drewN ?_ _ | refine blk_drew ?_ | refine blk_alloc ?_ _)); refine blk_put (cs := #[.int .i64 0, .int .i64 0, .int .i64 0, .int .i64 0, .int .i64 0]) ?_ 2 _ rfl; (with_reducible repeat (first | refine blk_drewN ?_ _ | refine blk_drew ?_ | refine blk_alloc ?_ _)); refine blk_put (cs := #[.int .i64 0, .int .i64 0, .int .i64 0, .int .i64 0, .int .i64 0]) ?_ 1 _ rfl; (with_reducible repeat (first | refine blk_drewN ?_ _ | refine blk_drew ?_ | refine blk_alloc ?_ _)); refine blk_put (cs := #[.int .i64 0, .int .i64 0, .int .i64 0, .int .i64 0, .int .i64 0]) ?_ 0 _ rfl; (with_reducible repeat (first | refine blk_drewN ?_ _ | refine blk_drew ?_ | refine blk_alloc ?_ _)); exact BR.out) Tryz.underlying23 rfl (by kernel_rfl)) rfl ?_
              exact ⟨rfl, (by repeat (first | (with_reducible first | exact HB.out | apply below_alloc | apply pw_below_drewN | apply below_drew1 | refine below_set ?_ GR.out) | exact HB.out))⟩
        · replace hB : (dP q9).2 = false := Bool.eq_false_iff.mpr hB
          have hz := HBAD.out (fun h => by have := (h (dP q9) (by simp)).1; rw [hB] at this; cases this)
          simp only [Prod.mk.injEq] at hz
          obtain ⟨rfl, rfl, rfl, rfl, rfl, rfl⟩ := hz
          clear h00 h01
          go_wp2_with (first | (go_at_call 21; (with_reducible refine (dP_call q9 (HSZ.out q9 (by simp)) _ (GInv2.below HG.out (by repeat (first | (with_reducible first | exact HB.out | apply below_alloc | apply pw_below_drewN | apply below_drew1 | refine below_set ?_ GB.out | refine below_set ?_ GR.out) | exact HB.out | refine below_set ?_ GB.out | refine below_set ?_ GR.out))).one).mono ?_); rintro e w8 ⟨rfl, hb⟩; have n1_ := Aside0.mk (blk_below (g := gR) (o := .cells #[.int .i64 0, .int .i64 0, .int .i64 0, .int .i64 0, .int .i64 0] 23 (0, 0)) (by (with_reducible repeat (first | refine blk_drewN ?_ _ | refine blk_drew ?_ | refine blk_alloc ?_ _)); exact BR.out) hb); have n2_ := Aside0.mk (blk_below (g := gB) (o := .cells (mArr [(dP q1).1 / 10000, (dP q3).1 / 10000, (dP q5).1 / 10000, (dP q7).1 / 10000, (dP q9).1 / 10000] 4) 66 (0, 0)) (by (with_reducible repeat (first | refine blk_drewN ?_ _ | refine blk_drew ?_ | refine blk_alloc ?_ _)); exact BB.out) hb); have n3_ := Aside0.mk (blk_below (g := gF) (o := .cells #[.string q0, .string q1, .string q2, .string q3, .string q4, .string q5, .string q6, .string q7, .string q8, .string q9] 9 (0, 0)) (by (with_reducible repeat (first | refine blk_drewN ?_ _ | refine blk_drew ?_ | refine blk_alloc ?_ _)); exact BF.out) hb); have n0_ := Aside0.mk (below_step (by repeat (first | (with_reducible first | exact HB.out | apply below_alloc | apply pw_below_drewN | apply below_drew1 | refine below_set ?_ GB.out | refine below_set ?_ GR.out) | exact HB.out | refine below_set ?_ GB.out | refine below_set ?_ GR.out)) hb); clear HB BR BB BF; have HB := n0_; have BR := n1_; have BB := n2_; have BF := n3_; clear n0_ n1_ n2_ n3_ hb; (try clear hF); have hz0 : w8.cell? ⟨gR, 0, none⟩ = some (.int .i64 0) := (blk_cell BR.out 0).trans rfl; have hfz0 : w8.frozen? ⟨gR, 0, none⟩ = false := blk_frozen BR.out 0; have hz1 : w8.cell? ⟨gR, 1, none⟩ = some (.int .i64 0) := (blk_cell BR.out 1).trans rfl; have hfz1 : w8.frozen? ⟨gR, 1, none⟩ = false := blk_frozen BR.out 1; have hz2 : w8.cell? ⟨gR, 2, none⟩ = some (.int .i64 0) := (blk_cell BR.out 2).trans rfl; have hfz2 : w8.frozen? ⟨gR, 2, none⟩ = false := blk_frozen BR.out 2; have hz3 : w8.cell? ⟨gR, 3, none⟩ = some (.int .i64 0) := (blk_cell BR.out 3).trans rfl; have hfz3 : w8.frozen? ⟨gR, 3, none⟩ = false := blk_frozen BR.out 3; have hz4 : w8.cell? ⟨gR, 4, none⟩ = some (.int .i64 0) := (blk_cell BR.out 4).trans rfl; have hfz4 : w8.frozen? ⟨gR, 4, none⟩ = false := blk_frozen BR.out 4; have hy0 : w8.cell? ⟨gB, 0, none⟩ = some (.int .i64 ((dP q1).1 / 10000)) := (blk_cell BB.out 0).trans rfl; have hfy0 : w8.frozen? ⟨gB, 0, none⟩ = false := blk_frozen BB.out 0; have hy1 : w8.cell? ⟨gB, 1, none⟩ = some (.int .i64 ((dP q3).1 / 10000)) := (blk_cell BB.out 1).trans rfl; have hfy1 : w8.frozen? ⟨gB, 1, none⟩ = false := blk_frozen BB.out 1; have hy2 : w8.cell? ⟨gB, 2, none⟩ = some (.int .i64 ((dP q5).1 / 10000)) := (blk_cell BB.out 2).trans rfl; have hfy2 : w8.frozen? ⟨gB, 2, none⟩ = false := blk_frozen BB.out 2; have hy3 : w8.cell? ⟨gB, 3, none⟩ = some (.int .i64 ((dP q7).1 / 10000)) := (blk_cell BB.out 3).trans rfl; have hfy3 : w8.frozen? ⟨gB, 3, none⟩ = false := blk_frozen BB.out 3; have hy4 : w8.cell? ⟨gB, 4, none⟩ = some (.int .i64 0) := (blk_cell BB.out 4).trans rfl; have hfy4 : w8.frozen? ⟨gB, 4, none⟩ = false := blk_frozen BB.out 4))
          refine bodyPost_ret (results_ct rfl _ _ gR 23 #[.int .i64 0, .int .i64 0, .int .i64 0, .int .i64 0, .int .i64 0] (0, 0) _ rfl (by (with_reducible repeat (first | refine blk_drewN ?_ _ | refine blk_drew ?_ | refine blk_alloc ?_ _)); refine blk_put (cs := #[.int .i64 0, .int .i64 0, .int .i64 0, .int .i64 0, .int .i64 0]) ?_ 4 _ rfl; (with_reducible repeat (first | refine blk_drewN ?_ _ | refine blk_drew ?_ | refine blk_alloc ?_ _)); refine blk_put (cs := #[.int .i64 0, .int .i64 0, .int .i64 0, .int .i64 0, .int .i64 0]) ?_ 3 _ rfl; (with_reducible repeat (first | refine blk_drewN ?_ _ | refine blk_drew ?_ | refine blk_alloc ?_ _)); refine blk_put (cs := #[.int .i64 0, .int .i64 0, .int .i64 0, .int .i64 0, .int .i64 0]) ?_ 2 _ rfl; (with_reducible repeat (first | refine blk_drewN ?_ _ | refine blk_drew ?_ | refine blk_alloc ?_ _)); refine blk_put (cs := #[.int .i64 0, .int .i64 0, .int .i64 0, .int .i64 0, .int .i64 0]) ?_ 1 _ rfl; (with_reducible repeat (first | refine blk_drewN ?_ _ | refine blk_drew ?_ | refine blk_alloc ?_ _)); refine blk_put (cs := #[.int .i64 0, .int .i64 0, .int .i64 0, .int .i64 0, .int .i64 0]) ?_ 0 _ rfl; (with_reducible repeat (first | refine blk_drewN ?_ _ | refine blk_drew ?_ | refine blk_alloc ?_ _)); exact BR.out) Tryz.underlying23 rfl (by kernel_rfl)) rfl ?_
          exact ⟨rfl, (by repeat (first | (with_reducible first | exact HB.out | apply below_alloc | apply pw_below_drewN | apply below_drew1 | refine below_set ?_ GR.out) | exact HB.out))⟩
      · have HX : ∀ x ∈ [dP q1, dP q3, dP q5, dP q7, dP q9], okN x := fun x hx => HI.out x (show x ∈ ([dP q1, dP q3, dP q5, dP q7, dP q9]).take 5 from hx)
        have h1 := HEQ.out HX
        have h2 := HNE.out HX
        clear HX
        have hy0 : wr.cell? ⟨gB, 0, none⟩ = some (.int .i64 ((dP q1).1 / 10000)) := (blk_cell BB.out 0).trans rfl
        have hfy0 : wr.frozen? ⟨gB, 0, none⟩ = false := blk_frozen BB.out 0
        have hy1 : wr.cell? ⟨gB, 1, none⟩ = some (.int .i64 ((dP q3).1 / 10000)) := (blk_cell BB.out 1).trans rfl
        have hfy1 : wr.frozen? ⟨gB, 1, none⟩ = false := blk_frozen BB.out 1
        have hy2 : wr.cell? ⟨gB, 2, none⟩ = some (.int .i64 ((dP q5).1 / 10000)) := (blk_cell BB.out 2).trans rfl
        have hfy2 : wr.frozen? ⟨gB, 2, none⟩ = false := blk_frozen BB.out 2
        have hy3 : wr.cell? ⟨gB, 3, none⟩ = some (.int .i64 ((dP q7).1 / 10000)) := (blk_cell BB.out 3).trans rfl
        have hfy3 : wr.frozen? ⟨gB, 3, none⟩ = false := blk_frozen BB.out 3
        have hy4 : wr.cell? ⟨gB, 4, none⟩ = some (.int .i64 ((dP q9).1 / 10000)) := (blk_cell BB.out 4).trans rfl
        have hfy4 : wr.frozen? ⟨gB, 4, none⟩ = false := blk_frozen BB.out 4
        by_cases he : meterText [(dP q1).1 / 10000, (dP q3).1 / 10000, (dP q5).1 / 10000, (dP q7).1 / 10000, (dP q9).1 / 10000] = t
        · have hz := h1 he
          have k0 : ((meterText [(dP q1).1 / 10000, (dP q3).1 / 10000, (dP q5).1 / 10000, (dP q7).1 / 10000, (dP q9).1 / 10000]).toList == t.toList) = true := by rw [he]; exact beq_self_eq_true _
          have k1 : ((meterText [(dP q1).1 / 10000, (dP q3).1 / 10000, (dP q5).1 / 10000, (dP q7).1 / 10000, (dP q9).1 / 10000]).toList != t.toList) = false := by rw [he]; exact bne_self_eq_false _
          simp only [Prod.mk.injEq] at hz
          obtain ⟨rfl, rfl, rfl, rfl, rfl, rfl⟩ := hz
          clear h1 h2 he
          go_wp2_with (first | (go_at_call 37; (with_reducible refine (cost_call ((dP q1).1 / 10000) ((dP q3).1 / 10000) ((dP q5).1 / 10000) ((dP q7).1 / 10000) ((dP q9).1 / 10000) _).mono ?_); rintro e w9 ⟨rfl, hb⟩; have n1_ := Aside0.mk (blk_below (g := gR) (o := .cells #[.int .i64 0, .int .i64 0, .int .i64 0, .int .i64 0, .int .i64 0] 23 (0, 0)) (by (with_reducible repeat (first | refine blk_drewN ?_ _ | refine blk_drew ?_ | refine blk_alloc ?_ _)); exact BR.out) hb); have n0_ := Aside0.mk (below_step (by repeat (first | (with_reducible first | exact HB.out | apply below_alloc | apply pw_below_drewN | apply below_drew1 | refine below_set ?_ GB.out | refine below_set ?_ GR.out) | exact HB.out | refine below_set ?_ GB.out | refine below_set ?_ GR.out)) hb); clear HB BR; have HB := n0_; have BR := n1_; clear n0_ n1_ hb) | (go_at_call 25; (with_reducible refine (meter_Text.calls ((dP q1).1 / 10000) ((dP q3).1 / 10000) ((dP q5).1 / 10000) ((dP q7).1 / 10000) ((dP q9).1 / 10000) _ _ (GInv2.below HG.out (by repeat (first | (with_reducible first | exact HB.out | apply below_alloc | apply pw_below_drewN | apply below_drew1 | refine below_set ?_ GB.out | refine below_set ?_ GR.out) | exact HB.out | refine below_set ?_ GB.out | refine below_set ?_ GR.out))) (meter_Text_f _ _ _ _ _)).mono ?_); rintro e w10 ⟨rfl, hb⟩; have BC := Aside0.mk (blk_below (g := w9.heap.size) (o := .cells #[.int .i64 ((dP q1).1 / 10000), .int .i64 ((dP q3).1 / 10000), .int .i64 ((dP q5).1 / 10000), .int .i64 ((dP q7).1 / 10000), .int .i64 ((dP q9).1 / 10000)] 23 (0, 0)) (by (with_reducible repeat (first | refine blk_drewN ?_ _ | refine blk_drew ?_)); exact (MapKept.heap_alloc w9 _).1) hb); have n1_ := Aside0.mk (blk_below (g := gR) (o := .cells #[.int .i64 0, .int .i64 0, .int .i64 0, .int .i64 0, .int .i64 0] 23 (0, 0)) (by (with_reducible repeat (first | refine blk_drewN ?_ _ | refine blk_drew ?_ | refine blk_alloc ?_ _)); exact BR.out) hb); have n0_ := Aside0.mk (below_step (by repeat (first | (with_reducible first | exact HB.out | apply below_alloc | apply pw_below_drewN | apply below_drew1 | refine below_set ?_ GB.out | refine below_set ?_ GR.out) | exact HB.out | refine below_set ?_ GB.out | refine below_set ?_ GR.out)) hb); clear HB BR; have HB := n0_; have BR := n1_; clear n0_ n1_ hb; have hz0 : w10.cell? ⟨gR, 0, none⟩ = some (.int .i64 0) := (blk_cell BR.out 0).trans rfl; have hfz0 : w10.frozen? ⟨gR, 0, none⟩ = false := blk_frozen BR.out 0; have hz1 : w10.cell? ⟨gR, 1, none⟩ = some (.int .i64 0) := (blk_cell BR.out 1).trans rfl; have hfz1 : w10.frozen? ⟨gR, 1, none⟩ = false := blk_frozen BR.out 1; have hz2 : w10.cell? ⟨gR, 2, none⟩ = some (.int .i64 0) := (blk_cell BR.out 2).trans rfl; have hfz2 : w10.frozen? ⟨gR, 2, none⟩ = false := blk_frozen BR.out 2; have hz3 : w10.cell? ⟨gR, 3, none⟩ = some (.int .i64 0) := (blk_cell BR.out 3).trans rfl; have hfz3 : w10.frozen? ⟨gR, 3, none⟩ = false := blk_frozen BR.out 3; have hz4 : w10.cell? ⟨gR, 4, none⟩ = some (.int .i64 0) := (blk_cell BR.out 4).trans rfl; have hfz4 : w10.frozen? ⟨gR, 4, none⟩ = false := blk_frozen BR.out 4; have hc0 : w10.cell? ⟨w9.heap.size, 0, none⟩ = some (.int .i64 ((dP q1).1 / 10000)) := (blk_cell BC.out 0).trans rfl; have hfc0 : w10.frozen? ⟨w9.heap.size, 0, none⟩ = false := blk_frozen BC.out 0; have hc1 : w10.cell? ⟨w9.heap.size, 1, none⟩ = some (.int .i64 ((dP q3).1 / 10000)) := (blk_cell BC.out 1).trans rfl; have hfc1 : w10.frozen? ⟨w9.heap.size, 1, none⟩ = false := blk_frozen BC.out 1; have hc2 : w10.cell? ⟨w9.heap.size, 2, none⟩ = some (.int .i64 ((dP q5).1 / 10000)) := (blk_cell BC.out 2).trans rfl; have hfc2 : w10.frozen? ⟨w9.heap.size, 2, none⟩ = false := blk_frozen BC.out 2; have hc3 : w10.cell? ⟨w9.heap.size, 3, none⟩ = some (.int .i64 ((dP q7).1 / 10000)) := (blk_cell BC.out 3).trans rfl; have hfc3 : w10.frozen? ⟨w9.heap.size, 3, none⟩ = false := blk_frozen BC.out 3; have hc4 : w10.cell? ⟨w9.heap.size, 4, none⟩ = some (.int .i64 ((dP q9).1 / 10000)) := (blk_cell BC.out 4).trans rfl; have hfc4 : w10.frozen? ⟨w9.heap.size, 4, none⟩ = false := blk_frozen BC.out 4))
          refine bodyPost_ret (results_ct rfl _ _ gR 23 #[.int .i64 ((dP q1).1 / 10000), .int .i64 ((dP q3).1 / 10000), .int .i64 ((dP q5).1 / 10000), .int .i64 ((dP q7).1 / 10000), .int .i64 ((dP q9).1 / 10000)] (0, 0) _ rfl (by (with_reducible repeat (first | refine blk_drewN ?_ _ | refine blk_drew ?_ | refine blk_alloc ?_ _)); refine blk_put (cs := #[.int .i64 ((dP q1).1 / 10000), .int .i64 ((dP q3).1 / 10000), .int .i64 ((dP q5).1 / 10000), .int .i64 ((dP q7).1 / 10000), .int .i64 0]) ?_ 4 _ rfl; (with_reducible repeat (first | refine blk_drewN ?_ _ | refine blk_drew ?_ | refine blk_alloc ?_ _)); refine blk_put (cs := #[.int .i64 ((dP q1).1 / 10000), .int .i64 ((dP q3).1 / 10000), .int .i64 ((dP q5).1 / 10000), .int .i64 0, .int .i64 0]) ?_ 3 _ rfl; (with_reducible repeat (first | refine blk_drewN ?_ _ | refine blk_drew ?_ | refine blk_alloc ?_ _)); refine blk_put (cs := #[.int .i64 ((dP q1).1 / 10000), .int .i64 ((dP q3).1 / 10000), .int .i64 0, .int .i64 0, .int .i64 0]) ?_ 2 _ rfl; (with_reducible repeat (first | refine blk_drewN ?_ _ | refine blk_drew ?_ | refine blk_alloc ?_ _)); refine blk_put (cs := #[.int .i64 ((dP q1).1 / 10000), .int .i64 0, .int .i64 0, .int .i64 0, .int .i64 0]) ?_ 1 _ rfl; (with_reducible repeat (first | refine blk_drewN ?_ _ | refine blk_drew ?_ | refine blk_alloc ?_ _)); refine blk_put (cs := #[.int .i64 0, .int .i64 0, .int .i64 0, .int .i64 0, .int .i64 0]) ?_ 0 _ rfl; (with_reducible repeat (first | refine blk_drewN ?_ _ | refine blk_drew ?_ | refine blk_alloc ?_ _)); exact BR.out) Tryz.underlying23 rfl (by kernel_rfl)) rfl ?_
          exact ⟨rfl, (by repeat (first | (with_reducible first | exact HB.out | apply below_alloc | apply pw_below_drewN | apply below_drew1 | refine below_set ?_ GR.out) | exact HB.out))⟩
        · have hz := h2 he
          have he2 : ¬ (meterText [(dP q1).1 / 10000, (dP q3).1 / 10000, (dP q5).1 / 10000, (dP q7).1 / 10000, (dP q9).1 / 10000]).toList = t.toList := fun e => he (bytes_ext (by rw [← toList_data, ← toList_data]; exact e))
          have k0 : ((meterText [(dP q1).1 / 10000, (dP q3).1 / 10000, (dP q5).1 / 10000, (dP q7).1 / 10000, (dP q9).1 / 10000]).toList == t.toList) = false := beq_eq_false_iff_ne.mpr he2
          have k1 : ((meterText [(dP q1).1 / 10000, (dP q3).1 / 10000, (dP q5).1 / 10000, (dP q7).1 / 10000, (dP q9).1 / 10000]).toList != t.toList) = true := bne_iff_ne.mpr he2
          simp only [Prod.mk.injEq] at hz
          obtain ⟨rfl, rfl, rfl, rfl, rfl, rfl⟩ := hz
          clear h1 h2 he he2
          go_wp2_with (first | (go_at_call 37; (with_reducible refine (cost_call ((dP q1).1 / 10000) ((dP q3).1 / 10000) ((dP q5).1 / 10000) ((dP q7).1 / 10000) ((dP q9).1 / 10000) _).mono ?_); rintro e w9 ⟨rfl, hb⟩; have n1_ := Aside0.mk (blk_below (g := gR) (o := .cells #[.int .i64 0, .int .i64 0, .int .i64 0, .int .i64 0, .int .i64 0] 23 (0, 0)) (by (with_reducible repeat (first | refine blk_drewN ?_ _ | refine blk_drew ?_ | refine blk_alloc ?_ _)); exact BR.out) hb); have n0_ := Aside0.mk (below_step (by repeat (first | (with_reducible first | exact HB.out | apply below_alloc | apply pw_below_drewN | apply below_drew1 | refine below_set ?_ GB.out | refine below_set ?_ GR.out) | exact HB.out | refine below_set ?_ GB.out | refine below_set ?_ GR.out)) hb); clear HB BR; have HB := n0_; have BR := n1_; clear n0_ n1_ hb) | (go_at_call 25; (with_reducible refine (meter_Text.calls ((dP q1).1 / 10000) ((dP q3).1 / 10000) ((dP q5).1 / 10000) ((dP q7).1 / 10000) ((dP q9).1 / 10000) _ _ (GInv2.below HG.out (by repeat (first | (with_reducible first | exact HB.out | apply below_alloc | apply pw_below_drewN | apply below_drew1 | refine below_set ?_ GB.out | refine below_set ?_ GR.out) | exact HB.out | refine below_set ?_ GB.out | refine below_set ?_ GR.out))) (meter_Text_f _ _ _ _ _)).mono ?_); rintro e w10 ⟨rfl, hb⟩; have BC := Aside0.mk (blk_below (g := w9.heap.size) (o := .cells #[.int .i64 ((dP q1).1 / 10000), .int .i64 ((dP q3).1 / 10000), .int .i64 ((dP q5).1 / 10000), .int .i64 ((dP q7).1 / 10000), .int .i64 ((dP q9).1 / 10000)] 23 (0, 0)) (by (with_reducible repeat (first | refine blk_drewN ?_ _ | refine blk_drew ?_)); exact (MapKept.heap_alloc w9 _).1) hb); have n1_ := Aside0.mk (blk_below (g := gR) (o := .cells #[.int .i64 0, .int .i64 0, .int .i64 0, .int .i64 0, .int .i64 0] 23 (0, 0)) (by (with_reducible repeat (first | refine blk_drewN ?_ _ | refine blk_drew ?_ | refine blk_alloc ?_ _)); exact BR.out) hb); have n0_ := Aside0.mk (below_step (by repeat (first | (with_reducible first | exact HB.out | apply below_alloc | apply pw_below_drewN | apply below_drew1 | refine below_set ?_ GB.out | refine below_set ?_ GR.out) | exact HB.out | refine below_set ?_ GB.out | refine below_set ?_ GR.out)) hb); clear HB BR; have HB := n0_; have BR := n1_; clear n0_ n1_ hb; have hz0 : w10.cell? ⟨gR, 0, none⟩ = some (.int .i64 0) := (blk_cell BR.out 0).trans rfl; have hfz0 : w10.frozen? ⟨gR, 0, none⟩ = false := blk_frozen BR.out 0; have hz1 : w10.cell? ⟨gR, 1, none⟩ = some (.int .i64 0) := (blk_cell BR.out 1).trans rfl; have hfz1 : w10.frozen? ⟨gR, 1, none⟩ = false := blk_frozen BR.out 1; have hz2 : w10.cell? ⟨gR, 2, none⟩ = some (.int .i64 0) := (blk_cell BR.out 2).trans rfl; have hfz2 : w10.frozen? ⟨gR, 2, none⟩ = false := blk_frozen BR.out 2; have hz3 : w10.cell? ⟨gR, 3, none⟩ = some (.int .i64 0) := (blk_cell BR.out 3).trans rfl; have hfz3 : w10.frozen? ⟨gR, 3, none⟩ = false := blk_frozen BR.out 3; have hz4 : w10.cell? ⟨gR, 4, none⟩ = some (.int .i64 0) := (blk_cell BR.out 4).trans rfl; have hfz4 : w10.frozen? ⟨gR, 4, none⟩ = false := blk_frozen BR.out 4; have hc0 : w10.cell? ⟨w9.heap.size, 0, none⟩ = some (.int .i64 ((dP q1).1 / 10000)) := (blk_cell BC.out 0).trans rfl; have hfc0 : w10.frozen? ⟨w9.heap.size, 0, none⟩ = false := blk_frozen BC.out 0; have hc1 : w10.cell? ⟨w9.heap.size, 1, none⟩ = some (.int .i64 ((dP q3).1 / 10000)) := (blk_cell BC.out 1).trans rfl; have hfc1 : w10.frozen? ⟨w9.heap.size, 1, none⟩ = false := blk_frozen BC.out 1; have hc2 : w10.cell? ⟨w9.heap.size, 2, none⟩ = some (.int .i64 ((dP q5).1 / 10000)) := (blk_cell BC.out 2).trans rfl; have hfc2 : w10.frozen? ⟨w9.heap.size, 2, none⟩ = false := blk_frozen BC.out 2; have hc3 : w10.cell? ⟨w9.heap.size, 3, none⟩ = some (.int .i64 ((dP q7).1 / 10000)) := (blk_cell BC.out 3).trans rfl; have hfc3 : w10.frozen? ⟨w9.heap.size, 3, none⟩ = false := blk_frozen BC.out 3; have hc4 : w10.cell? ⟨w9.heap.size, 4, none⟩ = some (.int .i64 ((dP q9).1 / 10000)) := (blk_cell BC.out 4).trans rfl; have hfc4 : w10.frozen? ⟨w9.heap.size, 4, none⟩ = false := blk_frozen BC.out 4))
          refine bodyPost_ret (results_ct rfl _ _ gR 23 #[.int .i64 0, .int .i64 0, .int .i64 0, .int .i64 0, .int .i64 0] (0, 0) _ rfl (by (with_reducible repeat (first | refine blk_drewN ?_ _ | refine blk_drew ?_ | refine blk_alloc ?_ _)); refine blk_put (cs := #[.int .i64 0, .int .i64 0, .int .i64 0, .int .i64 0, .int .i64 0]) ?_ 4 _ rfl; (with_reducible repeat (first | refine blk_drewN ?_ _ | refine blk_drew ?_ | refine blk_alloc ?_ _)); refine blk_put (cs := #[.int .i64 0, .int .i64 0, .int .i64 0, .int .i64 0, .int .i64 0]) ?_ 3 _ rfl; (with_reducible repeat (first | refine blk_drewN ?_ _ | refine blk_drew ?_ | refine blk_alloc ?_ _)); refine blk_put (cs := #[.int .i64 0, .int .i64 0, .int .i64 0, .int .i64 0, .int .i64 0]) ?_ 2 _ rfl; (with_reducible repeat (first | refine blk_drewN ?_ _ | refine blk_drew ?_ | refine blk_alloc ?_ _)); refine blk_put (cs := #[.int .i64 0, .int .i64 0, .int .i64 0, .int .i64 0, .int .i64 0]) ?_ 1 _ rfl; (with_reducible repeat (first | refine blk_drewN ?_ _ | refine blk_drew ?_ | refine blk_alloc ?_ _)); refine blk_put (cs := #[.int .i64 0, .int .i64 0, .int .i64 0, .int .i64 0, .int .i64 0]) ?_ 0 _ rfl; (with_reducible repeat (first | refine blk_drewN ?_ _ | refine blk_drew ?_ | refine blk_alloc ?_ _)); exact BR.out) Tryz.underlying23 rfl (by kernel_rfl)) rfl ?_
          exact ⟨rfl, (by repeat (first | (with_reducible first | exact HB.out | apply below_alloc | apply pw_below_drewN | apply below_drew1 | refine below_set ?_ GR.out) | exact HB.out))⟩
  · have hz := hlen hl
    simp only [Prod.mk.injEq] at hz
    obtain ⟨rfl, rfl, rfl, rfl, rfl, rfl⟩ := hz
    have q0 : (((wordsB t).length : Int) != 10) = true := bne_iff_ne.mpr (by omega)
    have q1 : ((wordsB t).length != 10) = true := bne_iff_ne.mpr hl
    have q2 : decide ((wordsB t).length = 10) = false := decide_eq_false hl
    have q3 : (((wordsB t).length : Int) == 10) = false := beq_eq_false_iff_ne.mpr (by omega)
    clear hlen hbad hne heq
    go_enter Tryz.func24, Tryz.ntmps24
    go_wp2_with (first
      | ((with_reducible refine gate_dst (N := 2) rfl ?_); refine box_event ?hg (N := 2) ?hd (cs := #[.int .i64 0, .int .i64 0, .int .i64 0, .int .i64 0, .int .i64 0]) (t := 23) ?hr ?_; (case hd => rfl); (case hg => rfl); (case hr => first | (go_simp; done) | (go_simp; rfl)); intro gR hg w5 hbox hb; have GR := Aside0.mk (show w.heap.size ≤ gR by rw [hg]; exact below_size (by repeat (first | (with_reducible first | exact HB.out | apply below_alloc | apply pw_below_drewN | apply below_drew1) | exact HB.out))); have BR := Aside0.mk hbox; have n0_ := Aside0.mk (below_step (by repeat (first | (with_reducible first | exact HB.out | apply below_alloc | apply pw_below_drewN | apply below_drew1) | exact HB.out)) hb); clear HB; have HB := n0_; clear n0_ hb hbox hg)
      | (go_at_call 36; (with_reducible refine (split_call t ht _ (GInv2.below HG.out (by repeat (first | (with_reducible first | exact HB.out | apply below_alloc | apply pw_below_drewN | apply below_drew1 | refine below_set ?_ GR.out) | exact HB.out))).one).mono ?_); rintro e w6 ⟨gF, rfl, hgF, hbF, hb⟩; have n1_ := Aside0.mk (blk_below (g := gR) (o := .cells #[.int .i64 0, .int .i64 0, .int .i64 0, .int .i64 0, .int .i64 0] 23 (0, 0)) (by (with_reducible repeat (first | refine blk_drewN ?_ _ | refine blk_drew ?_ | refine blk_alloc ?_ _)); exact BR.out) hb); have n0_ := Aside0.mk (below_step (by repeat (first | (with_reducible first | exact HB.out | apply below_alloc | apply pw_below_drewN | apply below_drew1 | refine below_set ?_ GR.out) | exact HB.out)) hb); clear HB BR; have HB := n0_; have BR := n1_; clear n0_ n1_ hb hbF hgF; have hz0 : w6.cell? ⟨gR, 0, none⟩ = some (.int .i64 0) := (blk_cell BR.out 0).trans rfl; have hfz0 : w6.frozen? ⟨gR, 0, none⟩ = false := blk_frozen BR.out 0; have hz1 : w6.cell? ⟨gR, 1, none⟩ = some (.int .i64 0) := (blk_cell BR.out 1).trans rfl; have hfz1 : w6.frozen? ⟨gR, 1, none⟩ = false := blk_frozen BR.out 1; have hz2 : w6.cell? ⟨gR, 2, none⟩ = some (.int .i64 0) := (blk_cell BR.out 2).trans rfl; have hfz2 : w6.frozen? ⟨gR, 2, none⟩ = false := blk_frozen BR.out 2; have hz3 : w6.cell? ⟨gR, 3, none⟩ = some (.int .i64 0) := (blk_cell BR.out 3).trans rfl; have hfz3 : w6.frozen? ⟨gR, 3, none⟩ = false := blk_frozen BR.out 3; have hz4 : w6.cell? ⟨gR, 4, none⟩ = some (.int .i64 0) := (blk_cell BR.out 4).trans rfl; have hfz4 : w6.frozen? ⟨gR, 4, none⟩ = false := blk_frozen BR.out 4))
    refine bodyPost_ret (results_ct rfl _ _ gR 23 #[.int .i64 0, .int .i64 0, .int .i64 0, .int .i64 0, .int .i64 0] (0, 0) _ rfl (by (with_reducible repeat (first | refine blk_drewN ?_ _ | refine blk_drew ?_ | refine blk_alloc ?_ _)); refine blk_put (cs := #[.int .i64 0, .int .i64 0, .int .i64 0, .int .i64 0, .int .i64 0]) ?_ 4 _ rfl; (with_reducible repeat (first | refine blk_drewN ?_ _ | refine blk_drew ?_ | refine blk_alloc ?_ _)); refine blk_put (cs := #[.int .i64 0, .int .i64 0, .int .i64 0, .int .i64 0, .int .i64 0]) ?_ 3 _ rfl; (with_reducible repeat (first | refine blk_drewN ?_ _ | refine blk_drew ?_ | refine blk_alloc ?_ _)); refine blk_put (cs := #[.int .i64 0, .int .i64 0, .int .i64 0, .int .i64 0, .int .i64 0]) ?_ 2 _ rfl; (with_reducible repeat (first | refine blk_drewN ?_ _ | refine blk_drew ?_ | refine blk_alloc ?_ _)); refine blk_put (cs := #[.int .i64 0, .int .i64 0, .int .i64 0, .int .i64 0, .int .i64 0]) ?_ 1 _ rfl; (with_reducible repeat (first | refine blk_drewN ?_ _ | refine blk_drew ?_ | refine blk_alloc ?_ _)); refine blk_put (cs := #[.int .i64 0, .int .i64 0, .int .i64 0, .int .i64 0, .int .i64 0]) ?_ 0 _ rfl; (with_reducible repeat (first | refine blk_drewN ?_ _ | refine blk_drew ?_ | refine blk_alloc ?_ _)); exact BR.out) Tryz.underlying23 rfl (by kernel_rfl)) rfl ?_
    exact ⟨rfl, (by repeat (first | (with_reducible first | exact HB.out | apply below_alloc | apply pw_below_drewN | apply below_drew1 | refine below_set ?_ GR.out) | exact HB.out))⟩
end Go.Proofs.YtaljjdodjimgdaaGreatDoor.P
namespace Go.Proofs.YtaljjdodjimgdaaGreatDoor.P
open Go.RowKit Go.Proofs.YtaljjdodjimgdaaGreatDoorW.PrintWords Go.Proofs.YtaljjdodjimgdaaGreatDoorW.PrintLast Go.Proofs.YtaljjdodjimgdaaGreatDoorW.PrintMore
theorem ev_uniq {α : Type} {f : Nat → Option α} {a b : α} (h1 : Ev f a) (h2 : Ev f b) : a = b := by
  obtain ⟨K1, h1⟩ := h1
  obtain ⟨K2, h2⟩ := h2
  exact Option.some.inj ((h1 (max K1 K2) (Nat.le_max_left _ _)).symm.trans (h2 (max K1 K2) (Nat.le_max_right _ _)))
def toldBy (t : ByteArray) (a b c d e : Int) : Prop := (∀ n ∈ [a, b, c, d, e], inCount n) ∧ mkS (pairs true meterW [a, b, c, d, e]) = t
theorem dec_inj {m n : Int} (hm : inCount m) (hn : inCount n) (h : Lib.decDigits m.toNat = Lib.decDigits n.toNat) : m = n := by
  have h1 := numOf_dec m.toNat (by have := hm.2; omega)
  have h2 := numOf_dec n.toNat (by have := hn.2; omega)
  rw [h] at h1
  have h3 := Option.some.inj (h1.symm.trans h2)
  have := hm.1
  have := hn.1
  omega
theorem told_words {t : ByteArray} {a b c d e : Int} (h : toldBy t a b c d e) : wordsB t = [mkS [101, 118, 97, 108, 115], mkS (Lib.decDigits a.toNat), mkS [114, 101, 97, 100, 115], mkS (Lib.decDigits b.toNat), mkS [99, 104, 97, 115, 101, 115], mkS (Lib.decDigits c.toNat), mkS [101, 100, 103, 101, 115], mkS (Lib.decDigits d.toNat), mkS [118, 105, 115, 105, 116, 115], mkS (Lib.decDigits e.toNat)] := by
  unfold wordsB
  rw [← h.2, mkS_data, words_pairs]
  rfl
def back5 (t : ByteArray) (a b c d e : Int) : Int × Int × Int × Int × Int × Bool :=
  if (∀ n ∈ [a, b, c, d, e], inCount n) ∧ pairs true meterW [a, b, c, d, e] = t.data.toList then (a, b, c, d, e, true) else (0, 0, 0, 0, 0, false)
def backOf (t : ByteArray) : List ByteArray → Int × Int × Int × Int × Int × Bool
  | [_, q1, _, q3, _, q5, _, q7, _, q9] => back5 t (refNum q1.data.toList 0) (refNum q3.data.toList 0) (refNum q5.data.toList 0) (refNum q7.data.toList 0) (refNum q9.data.toList 0)
  | _ => (0, 0, 0, 0, 0, false)
def back (t : ByteArray) : Int × Int × Int × Int × Int × Bool := backOf t (wordsB t)
theorem refNum_in (n : Int) (h : inCount n) : refNum (mkS (Lib.decDigits n.toNat)).data.toList 0 = n := by
  have := refNum_dec n.toNat (by have := h.2; omega)
  have := h.1
  rw [mkS_data]
  omega
theorem back_told {t : ByteArray} {a b c d e : Int} (h : toldBy t a b c d e) : back t = (a, b, c, d, e, true) := by
  unfold back
  rw [told_words h]
  show back5 t (refNum (mkS (Lib.decDigits a.toNat)).data.toList 0) (refNum (mkS (Lib.decDigits b.toNat)).data.toList 0) (refNum (mkS (Lib.decDigits c.toNat)).data.toList 0) (refNum (mkS (Lib.decDigits d.toNat)).data.toList 0) (refNum (mkS (Lib.decDigits e.toNat)).data.toList 0) = _
  rw [refNum_in a (h.1 a (by simp)), refNum_in b (h.1 b (by simp)), refNum_in c (h.1 c (by simp)), refNum_in d (h.1 d (by simp)), refNum_in e (h.1 e (by simp))]
  unfold back5
  rw [if_pos ⟨h.1, by rw [← h.2]; rfl⟩]
theorem back_some {t : ByteArray} {a b c d e : Int} {o : Bool} (h : back t = (a, b, c, d, e, o)) : (o = true ∧ toldBy t a b c d e) ∨ (o = false ∧ a = 0 ∧ b = 0 ∧ c = 0 ∧ d = 0 ∧ e = 0) := by
  unfold back backOf at h
  split at h
  · unfold back5 at h
    split at h
    · rename_i hx
      simp only [Prod.mk.injEq] at h
      obtain ⟨rfl, rfl, rfl, rfl, rfl, rfl⟩ := h
      exact Or.inl ⟨rfl, hx.1, by rw [hx.2]; rfl⟩
    · simp only [Prod.mk.injEq] at h
      obtain ⟨rfl, rfl, rfl, rfl, rfl, rfl⟩ := h
      exact Or.inr ⟨rfl, rfl, rfl, rfl, rfl, rfl⟩
  · simp only [Prod.mk.injEq] at h
    obtain ⟨rfl, rfl, rfl, rfl, rfl, rfl⟩ := h
    exact Or.inr ⟨rfl, rfl, rfl, rfl, rfl, rfl⟩
theorem back_none {t : ByteArray} (h : ∀ a b c d e, ¬ toldBy t a b c d e) : back t = (0, 0, 0, 0, 0, false) := by
  rcases hb : back t with ⟨a, b, c, d, e, o⟩
  rcases back_some hb with ⟨_, ht⟩ | ⟨rfl, rfl, rfl, rfl, rfl, rfl⟩
  · exact absurd ht (h a b c d e)
  · rfl
theorem dP_dec (n : Int) (h : inCount n) : dP (mkS (Lib.decDigits n.toNat)) = (n * 10000, true) := by
  have hl := dec_len20 n.toNat (by have := h.2; omega)
  have h1 := (dP_spec (mkS (Lib.decDigits n.toNat)) (by rw [mkS_size]; omega)).1
  have h2 := parse_dec n.toNat (by have := h.2; omega)
  rw [show ((n.toNat : Nat) : Int) = n by have := h.1; omega] at h2
  exact ev_uniq h1 h2
theorem ok_dec (n : Int) (h : inCount n) : okN (dP (mkS (Lib.decDigits n.toNat))) ∧ (dP (mkS (Lib.decDigits n.toNat))).1 / 10000 = n := by
  rw [dP_dec n h]
  have := h.1
  exact ⟨⟨rfl, by show 0 ≤ n * 10000; omega, by show n * 10000 % 10000 = 0; omega⟩, by show n * 10000 / 10000 = n; omega⟩
theorem text_told (a b c d e : Int) (h : ∀ n ∈ [a, b, c, d, e], inCount n) : toldBy (meterText [a, b, c, d, e]) a b c d e := ⟨h, by unfold meterText; rw [if_pos h]⟩
def meter_Parse_ok (t : ByteArray) : Prop := t.size ≤ 1000000
instance (t : ByteArray) : Decidable (meter_Parse_ok t) := by unfold meter_Parse_ok; infer_instance
def meter_Parse.f (t : ByteArray) : Option (Int × Int × Int × Int × Int × Bool) := if meter_Parse_ok t then some (back t) else none
theorem meter_Parse.calls (a0 : ByteArray) (r1 r2 r3 r4 r5 : Int) (r6 : Bool) (w : World) (hG : GInv2 w) (h : meter_Parse.f a0 = some (r1, r2, r3, r4, r5, r6)) :
    Calls Tryz.prog 24 #[.string a0] w fun e w' => e = .returned (.tuple #[.agg #[.int .i64 r1, .int .i64 r2, .int .i64 r3, .int .i64 r4, .int .i64 r5], .bool r6]) ∧ Below w.heap.size w w' := by
  unfold meter_Parse.f at h
  split at h
  · rename_i ht
    have hb := Option.some.inj h
    refine mparse_walk a0 ht w hG r1 r2 r3 r4 r5 r6 (fun hl => ?_) (fun q0 q1 q2 q3 q4 q5 q6 q7 q8 q9 hq hbad => ?_) (fun q0 q1 q2 q3 q4 q5 q6 q7 q8 q9 hq hok hne => ?_) (fun q0 q1 q2 q3 q4 q5 q6 q7 q8 q9 hq hok he => ?_)
    · rw [← hb]
      refine back_none fun a b c d e hw => hl ?_
      rw [told_words hw]
      rfl
    · rw [← hb]
      refine back_none fun a b c d e hw => hbad ?_
      have h1 := hq.symm.trans (told_words hw)
      simp only [List.cons.injEq, and_true] at h1
      obtain ⟨_, rfl, _, rfl, _, rfl, _, rfl, _, rfl⟩ := h1
      intro x hx
      simp only [List.mem_cons, List.mem_nil_iff, or_false] at hx
      rcases hx with rfl | rfl | rfl | rfl | rfl
      · exact (ok_dec a (hw.1 a (by simp))).1
      · exact (ok_dec b (hw.1 b (by simp))).1
      · exact (ok_dec c (hw.1 c (by simp))).1
      · exact (ok_dec d (hw.1 d (by simp))).1
      · exact (ok_dec e (hw.1 e (by simp))).1
    · rw [← hb]
      refine back_none fun a b c d e hw => hne ?_
      have h1 := hq.symm.trans (told_words hw)
      simp only [List.cons.injEq, and_true] at h1
      obtain ⟨_, rfl, _, rfl, _, rfl, _, rfl, _, rfl⟩ := h1
      rw [(ok_dec a (hw.1 a (by simp))).2, (ok_dec b (hw.1 b (by simp))).2, (ok_dec c (hw.1 c (by simp))).2, (ok_dec d (hw.1 d (by simp))).2, (ok_dec e (hw.1 e (by simp))).2]
      exact (text_told a b c d e hw.1).2.symm.trans hw.2
    · rw [← hb]
      by_cases hin : ∀ n ∈ [(dP q1).1 / 10000, (dP q3).1 / 10000, (dP q5).1 / 10000, (dP q7).1 / 10000, (dP q9).1 / 10000], inCount n
      · have := text_told _ _ _ _ _ hin
        rw [he] at this
        exact back_told this
      · exfalso
        unfold meterText at he
        rw [if_neg hin] at he
        rw [← he] at hq
        have := congrArg List.length hq
        simp [wordsB, wordsFrom] at this
  · cases h
end Go.Proofs.YtaljjdodjimgdaaGreatDoor.P
namespace Go.Proofs.YtaljjdodjimgdaaGreatDoor.P
open Go.RowKit Go.Proofs.YtaljjdodjimgdaaGreatDoorW.PrintWords Go.Proofs.YtaljjdodjimgdaaGreatDoorW.PrintLast Go.Proofs.YtaljjdodjimgdaaGreatDoorW.PrintMore
attribute [local go_sem] max2_int min2_int max_two min_two max_three min_three max_four min_four
set_option linter.unusedVariables false
set_option linter.unusedSimpArgs false
def reply_count.f (k : Nat) (a0 : Int) : Option (ByteArray) := (digits_Text.f k (wrap64 (a0 * 10000))).bind fun t107 => (some t107)
theorem reply_count.mono : ∀ a0 k, LeO (reply_count.f k a0) (reply_count.f (k + 1) a0) := by
 intro a0 k
 unfold reply_count.f
 repeat' first
   | (with_reducible exact digits_Text.mono _ _)
   | (with_reducible exact LeO.refl _)
   | (with_reducible exact LeO.none _)
   | (with_reducible refine LeO.ite ?_ ?_)
   | (with_reducible refine LeO.bind ?_ (fun _ => ?_))
   | exact digits_Text.mono _ _
   | exact LeO.none _
   | refine LeO.ite ?_ ?_
   | refine LeO.bind ?_ (fun _ => ?_)
set_option maxHeartbeats 8000000 in
set_option maxRecDepth 100000 in
theorem reply_count.calls (k : Nat) (a0 : Int) (r : ByteArray) (w : World) (hG : GInv w) (h : reply_count.f k a0 = some r) :
  Calls Tryz.prog 19 #[.int .i64 a0] w fun e w' => e = .returned (.string r) ∧ Below w.heap.size w w' := by
 have HG := Aside0.mk hG
 clear hG
 have HB := Aside0.mk (Below.refl w.heap.size w)
 have H : ((digits_Text.f k (wrap64 (a0 * 10000))).bind fun t107 => (some t107)) = some r := h
 clear h
 replace H := Option.bind_eq_some_iff.mp H
 obtain ⟨t107, A20, H⟩ := H
 replace H : (some t107) = some r := H
 have A2 := Aside0.mk A20
 clear A20
 obtain rfl := Option.some.inj H
 go_enter Tryz.func19, Tryz.ntmps19
 go_wp2_with (first | ((with_reducible refine gate_callee (f := 33) rfl ?_); refine goesL_ (some 5) rfl rfl Tryz.func33 (by kernel_rfl) rfl #[.int .i64 (wrap64 (a0 * 10000))] rfl (by (try simp only [List.map_toArray, List.map_cons, List.map_nil]); first | done | rfl | (simp only [List.length_drop, List.length_take]; rfl)) ?_; (with_reducible refine (digits_Text.calls k (wrap64 (a0 * 10000)) t107 _ ?side1 A2.out).mono ?_); (case side1 => exact GInv.below HG.out (by repeat (first | (with_reducible first | exact HB.out | apply below_alloc | apply pw_below_drewN | apply below_drew1) | exact HB.out))); rintro e w3 ⟨rfl, hb⟩; refine ⟨_, rfl, ?_⟩; have n0_ := Aside0.mk (below_step (by repeat (first | (with_reducible first | exact HB.out | apply below_alloc | apply pw_below_drewN | apply below_drew1) | exact HB.out)) hb); clear HB; have HB := n0_; clear n0_; (try clear hb); (try clear hb2); (try clear hk); (try clear hi)))
 go_ret
 exact ⟨by first | rfl | (simp [errW_none, errW_some] <;> rfl) | (simp [*, errW_none, errW_some] <;> rfl), by repeat (first | (with_reducible first | exact HB.out | apply below_alloc | apply pw_below_drewN | apply below_drew1) | exact HB.out)⟩
end Go.Proofs.YtaljjdodjimgdaaGreatDoor.P
namespace Go.Proofs.YtaljjdodjimgdaaGreatDoor.P
open Go.RowKit Go.Proofs.YtaljjdodjimgdaaGreatDoorW.PrintWords Go.Proofs.YtaljjdodjimgdaaGreatDoorW.PrintLast Go.Proofs.YtaljjdodjimgdaaGreatDoorW.PrintMore
attribute [local go_sem] max2_int min2_int max_two min_two max_three min_three max_four min_four
set_option linter.unusedVariables false
set_option linter.unusedSimpArgs false
def reply_Error.f (k : Nat) (a0 : Int) : Option (ByteArray) := if a0 < 1 then (some (⟨#[]⟩ : ByteArray)) else (if a0 > 999 then (some (⟨#[]⟩ : ByteArray)) else ((reply_count.f k a0).bind fun t108 => (if 6 + t108.size ≤ 9223372036854775807 then (some ((⟨#[101, 114, 114, 111, 114, 32]⟩ : ByteArray) ++ t108)) else (none))))
theorem reply_Error.mono : ∀ a0 k, LeO (reply_Error.f k a0) (reply_Error.f (k + 1) a0) := by
 intro a0 k
 unfold reply_Error.f
 repeat' first
   | (with_reducible exact reply_count.mono _ _)
   | (with_reducible exact LeO.refl _)
   | (with_reducible exact LeO.none _)
   | (with_reducible refine LeO.ite ?_ ?_)
   | (with_reducible refine LeO.bind ?_ (fun _ => ?_))
   | exact reply_count.mono _ _
   | exact LeO.none _
   | refine LeO.ite ?_ ?_
   | refine LeO.bind ?_ (fun _ => ?_)
set_option maxHeartbeats 8000000 in
set_option maxRecDepth 100000 in
theorem reply_Error.calls (k : Nat) (a0 : Int) (r : ByteArray) (w : World) (hG : GInv w) (h : reply_Error.f k a0 = some r) :
  Calls Tryz.prog 5 #[.int .i64 a0] w fun e w' => e = .returned (.string r) ∧ Below w.heap.size w w' := by
 have HG := Aside0.mk hG
 clear hG
 have HB := Aside0.mk (Below.refl w.heap.size w)
 have H : (if a0 < 1 then (some (⟨#[]⟩ : ByteArray)) else (if a0 > 999 then (some (⟨#[]⟩ : ByteArray)) else ((reply_count.f k a0).bind fun t108 => (if 6 + t108.size ≤ 9223372036854775807 then (some ((⟨#[101, 114, 114, 111, 114, 32]⟩ : ByteArray) ++ t108)) else (none))))) = some r := h
 clear h
 by_cases c2 : a0 < 1
 ·rw [if_pos c2] at H
  have c2b0 : decide (a0 < 1) = true := decide_eq_true c2
  clear c2
  obtain rfl := Option.some.inj H
  go_enter Tryz.func5, Tryz.ntmps5
  go_wp2
  go_ret
  exact ⟨by first | rfl | (simp [errW_none, errW_some] <;> rfl) | (simp [*, errW_none, errW_some] <;> rfl), by repeat (first | (with_reducible first | exact HB.out | apply below_alloc | apply pw_below_drewN | apply below_drew1) | exact HB.out)⟩
 ·rw [if_neg c2] at H
  have c2b0 : decide (a0 < 1) = false := decide_eq_false c2
  clear c2
  by_cases c3 : a0 > 999
  ·rw [if_pos c3] at H
   have c3b0 : decide (999 < a0) = true := decide_eq_true c3
   clear c3
   obtain rfl := Option.some.inj H
   go_enter Tryz.func5, Tryz.ntmps5
   go_wp2
   go_ret
   exact ⟨by first | rfl | (simp [errW_none, errW_some] <;> rfl) | (simp [*, errW_none, errW_some] <;> rfl), by repeat (first | (with_reducible first | exact HB.out | apply below_alloc | apply pw_below_drewN | apply below_drew1) | exact HB.out)⟩
  ·rw [if_neg c3] at H
   have c3b0 : decide (999 < a0) = false := decide_eq_false c3
   clear c3
   replace H := Option.bind_eq_some_iff.mp H
   obtain ⟨t108, A40, H⟩ := H
   replace H : (if 6 + t108.size ≤ 9223372036854775807 then (some ((⟨#[101, 114, 114, 111, 114, 32]⟩ : ByteArray) ++ t108)) else (none)) = some r := H
   have A4 := Aside0.mk A40
   clear A40
   by_cases c5 : 6 + t108.size ≤ 9223372036854775807
   ·rw [if_pos c5] at H
    have c5b0 := eq_true c5
    have c5b1 : decide (6 + t108.size ≤ 9223372036854775807) = true := decide_eq_true c5
    try have c5b2 : (9223372036854775807 < 6 + t108.size) = False := eq_false (Nat.not_lt.2 c5)
    obtain rfl := Option.some.inj H
    go_enter Tryz.func5, Tryz.ntmps5
    go_wp2_with (first | ((with_reducible refine gate_callee (f := 19) rfl ?_); refine goesL_ (some 10) rfl rfl Tryz.func19 (by kernel_rfl) rfl #[.int .i64 a0] rfl (by (try simp only [List.map_toArray, List.map_cons, List.map_nil]); first | done | rfl | (simp only [List.length_drop, List.length_take]; rfl)) ?_; (with_reducible refine (reply_count.calls k a0 t108 _ ?side1 A4.out).mono ?_); (case side1 => exact GInv.below HG.out (by repeat (first | (with_reducible first | exact HB.out | apply below_alloc | apply pw_below_drewN | apply below_drew1) | exact HB.out))); rintro e w6 ⟨rfl, hb⟩; refine ⟨_, rfl, ?_⟩; have n0_ := Aside0.mk (below_step (by repeat (first | (with_reducible first | exact HB.out | apply below_alloc | apply pw_below_drewN | apply below_drew1) | exact HB.out)) hb); clear HB; have HB := n0_; clear n0_; (try clear hb); (try clear hb2); (try clear hk); (try clear hi)))
    go_ret
    exact ⟨by first | rfl | (simp [errW_none, errW_some] <;> rfl) | (simp [*, errW_none, errW_some] <;> rfl), by repeat (first | (with_reducible first | exact HB.out | apply below_alloc | apply pw_below_drewN | apply below_drew1) | exact HB.out)⟩
   ·rw [if_neg c5] at H
    exact absurd H (by simp)
end Go.Proofs.YtaljjdodjimgdaaGreatDoor.P
namespace Go.Proofs.YtaljjdodjimgdaaGreatDoor.P
open Go.RowKit Go.Proofs.YtaljjdodjimgdaaGreatDoorW.PrintWords Go.Proofs.YtaljjdodjimgdaaGreatDoorW.PrintLast Go.Proofs.YtaljjdodjimgdaaGreatDoorW.PrintMore
attribute [local go_sem] max2_int min2_int max_two min_two max_three min_three max_four min_four
set_option linter.unusedVariables false
set_option linter.unusedSimpArgs false
def reply_ReadError.f (k : Nat) (a0 : ByteArray) : Option (Int × Bool) := (strings_CutPrefix.f a0 (⟨#[101, 114, 114, 111, 114, 32]⟩ : ByteArray)).bind fun bt152 => ((digits_Parse.f k bt152.1).bind fun bt154 => (if bt152.2 = true then (if bt154.2 = true then ((reply_Error.f k (wrap64 (Int.tdiv bt154.1 10000))).bind fun t156 => (if t156.toList = a0.toList then (some (wrap64 (Int.tdiv bt154.1 10000), true)) else (some (0, false)))) else (some (0, false))) else (some (0, false))))
theorem reply_ReadError.mono : ∀ a0 k, LeO (reply_ReadError.f k a0) (reply_ReadError.f (k + 1) a0) := by
 intro a0 k
 unfold reply_ReadError.f
 repeat' first
   | (with_reducible exact digits_Parse.mono _ _)
   | (with_reducible exact reply_Error.mono _ _)
   | (with_reducible exact LeO.refl _)
   | (with_reducible exact LeO.none _)
   | (with_reducible refine LeO.ite ?_ ?_)
   | (with_reducible refine LeO.bind ?_ (fun _ => ?_))
   | exact digits_Parse.mono _ _
   | exact reply_Error.mono _ _
   | exact LeO.none _
   | refine LeO.ite ?_ ?_
   | refine LeO.bind ?_ (fun _ => ?_)
set_option maxHeartbeats 8000000 in
set_option maxRecDepth 100000 in
theorem reply_ReadError.calls (k : Nat) (a0 : ByteArray) (r1 : Int) (r2 : Bool) (w : World) (hG : GInv w) (h : reply_ReadError.f k a0 = some (r1, r2)) :
  Calls Tryz.prog 6 #[.string a0] w fun e w' => e = .returned (.tuple #[.int .i64 r1, .bool r2]) ∧ Below w.heap.size w w' := by
 have HG := Aside0.mk hG
 clear hG
 have HB := Aside0.mk (Below.refl w.heap.size w)
 have H : ((strings_CutPrefix.f a0 (⟨#[101, 114, 114, 111, 114, 32]⟩ : ByteArray)).bind fun bt152 => ((digits_Parse.f k bt152.1).bind fun bt154 => (if bt152.2 = true then (if bt154.2 = true then ((reply_Error.f k (wrap64 (Int.tdiv bt154.1 10000))).bind fun t156 => (if t156.toList = a0.toList then (some (wrap64 (Int.tdiv bt154.1 10000), true)) else (some (0, false)))) else (some (0, false))) else (some (0, false))))) = some (r1, r2) := h
 clear h
 replace H := Option.bind_eq_some_iff.mp H
 obtain ⟨⟨t152, t153⟩, A20, H⟩ := H
 replace H : ((digits_Parse.f k t152).bind fun bt154 => (if t153 = true then (if bt154.2 = true then ((reply_Error.f k (wrap64 (Int.tdiv bt154.1 10000))).bind fun t156 => (if t156.toList = a0.toList then (some (wrap64 (Int.tdiv bt154.1 10000), true)) else (some (0, false)))) else (some (0, false))) else (some (0, false)))) = some (r1, r2) := H
 have A2 := Aside0.mk A20
 clear A20
 replace H := Option.bind_eq_some_iff.mp H
 obtain ⟨⟨t154, t155⟩, A30, H⟩ := H
 replace H : (if t153 = true then (if t155 = true then ((reply_Error.f k (wrap64 (Int.tdiv t154 10000))).bind fun t156 => (if t156.toList = a0.toList then (some (wrap64 (Int.tdiv t154 10000), true)) else (some (0, false)))) else (some (0, false))) else (some (0, false))) = some (r1, r2) := H
 have A3 := Aside0.mk A30
 clear A30
 by_cases c4 : t153 = true
 ·subst c4
  have H1 : (if t155 = true then ((reply_Error.f k (wrap64 (Int.tdiv t154 10000))).bind fun t156 => (if t156.toList = a0.toList then (some (wrap64 (Int.tdiv t154 10000), true)) else (some (0, false)))) else (some (0, false))) = some (r1, r2) := by rw [if_pos rfl] at H; exact H
  clear H
  have H := H1
  clear H1
  by_cases c5 : t155 = true
  ·subst c5
   have H1 : ((reply_Error.f k (wrap64 (Int.tdiv t154 10000))).bind fun t156 => (if t156.toList = a0.toList then (some (wrap64 (Int.tdiv t154 10000), true)) else (some (0, false)))) = some (r1, r2) := by rw [if_pos rfl] at H; exact H
   clear H
   have H := H1
   clear H1
   replace H := Option.bind_eq_some_iff.mp H
   obtain ⟨t156, A60, H⟩ := H
   replace H : (if t156.toList = a0.toList then (some (wrap64 (Int.tdiv t154 10000), true)) else (some (0, false))) = some (r1, r2) := H
   have A6 := Aside0.mk A60
   clear A60
   by_cases c7 : t156.toList = a0.toList
   ·rw [if_pos c7] at H
    have c7b0 : (t156.toList == a0.toList) = true := beq_iff_eq.mpr c7
    have c7b1 : (t156.toList != a0.toList) = false := bne_eq_false_iff_eq.mpr c7
    clear c7
    simp only [Option.some.injEq, Prod.mk.injEq] at H
    obtain ⟨rfl, rfl⟩ := H
    go_enter Tryz.func6, Tryz.ntmps6
    go_wp2_with (first | ((with_reducible refine gate_callee (f := 20) rfl ?_); refine goesL_ (some 11) rfl rfl Tryz.func20 (by kernel_rfl) rfl #[.string a0, .string (⟨#[101, 114, 114, 111, 114, 32]⟩ : ByteArray)] rfl (by (try simp only [List.map_toArray, List.map_cons, List.map_nil]); first | done | rfl | (simp only [List.length_drop, List.length_take]; rfl)) ?_; (with_reducible refine (strings_CutPrefix.calls a0 (⟨#[101, 114, 114, 111, 114, 32]⟩ : ByteArray) t152 true _ A2.out).mono ?_); rintro e w8 ⟨rfl, hb⟩; refine ⟨_, rfl, ?_⟩; have n0_ := Aside0.mk (below_step (by repeat (first | (with_reducible first | exact HB.out | apply below_alloc | apply pw_below_drewN | apply below_drew1) | exact HB.out)) hb); clear HB; have HB := n0_; clear n0_; (try clear hb); (try clear hb2); (try clear hk); (try clear hi)) | ((with_reducible refine gate_callee (f := 21) rfl ?_); refine goesL_ (some 16) rfl rfl Tryz.func21 (by kernel_rfl) rfl #[.string t152] rfl (by (try simp only [List.map_toArray, List.map_cons, List.map_nil]); first | done | rfl | (simp only [List.length_drop, List.length_take]; rfl)) ?_; (with_reducible refine (digits_Parse.calls k t152 t154 true _ ?side1 A3.out).mono ?_); (case side1 => exact GInv.below HG.out (by repeat (first | (with_reducible first | exact HB.out | apply below_alloc | apply pw_below_drewN | apply below_drew1) | exact HB.out))); rintro e w9 ⟨rfl, hb⟩; refine ⟨_, rfl, ?_⟩; have n0_ := Aside0.mk (below_step (by repeat (first | (with_reducible first | exact HB.out | apply below_alloc | apply pw_below_drewN | apply below_drew1) | exact HB.out)) hb); clear HB; have HB := n0_; clear n0_; (try clear hb); (try clear hb2); (try clear hk); (try clear hi)) | (go_at_call 5; (with_reducible refine (reply_Error.calls k (wrap64 (Int.tdiv t154 10000)) t156 _ ?side1 A6.out).mono ?_); (case side1 => exact GInv.below HG.out (by repeat (first | (with_reducible first | exact HB.out | apply below_alloc | apply pw_below_drewN | apply below_drew1) | exact HB.out))); rintro e w10 ⟨rfl, hb⟩; have n0_ := Aside0.mk (below_step (by repeat (first | (with_reducible first | exact HB.out | apply below_alloc | apply pw_below_drewN | apply below_drew1) | exact HB.out)) hb); clear HB; have HB := n0_; clear n0_; (try clear hb); (try clear hb2); (try clear hk); (try clear hi)))
    go_ret2
    exact ⟨by first | rfl | (simp [errW_none, errW_some] <;> rfl) | (simp [*, errW_none, errW_some] <;> rfl), by repeat (first | (with_reducible first | exact HB.out | apply below_alloc | apply pw_below_drewN | apply below_drew1) | exact HB.out)⟩
   ·rw [if_neg c7] at H
    have c7b0 : (t156.toList == a0.toList) = false := beq_eq_false_iff_ne.mpr c7
    have c7b1 : (t156.toList != a0.toList) = true := bne_iff_ne.mpr c7
    simp only [Option.some.injEq, Prod.mk.injEq] at H
    obtain ⟨rfl, rfl⟩ := H
    go_enter Tryz.func6, Tryz.ntmps6
    go_wp2_with (first | ((with_reducible refine gate_callee (f := 20) rfl ?_); refine goesL_ (some 11) rfl rfl Tryz.func20 (by kernel_rfl) rfl #[.string a0, .string (⟨#[101, 114, 114, 111, 114, 32]⟩ : ByteArray)] rfl (by (try simp only [List.map_toArray, List.map_cons, List.map_nil]); first | done | rfl | (simp only [List.length_drop, List.length_take]; rfl)) ?_; (with_reducible refine (strings_CutPrefix.calls a0 (⟨#[101, 114, 114, 111, 114, 32]⟩ : ByteArray) t152 true _ A2.out).mono ?_); rintro e w11 ⟨rfl, hb⟩; refine ⟨_, rfl, ?_⟩; have n0_ := Aside0.mk (below_step (by repeat (first | (with_reducible first | exact HB.out | apply below_alloc | apply pw_below_drewN | apply below_drew1) | exact HB.out)) hb); clear HB; have HB := n0_; clear n0_; (try clear hb); (try clear hb2); (try clear hk); (try clear hi)) | ((with_reducible refine gate_callee (f := 21) rfl ?_); refine goesL_ (some 16) rfl rfl Tryz.func21 (by kernel_rfl) rfl #[.string t152] rfl (by (try simp only [List.map_toArray, List.map_cons, List.map_nil]); first | done | rfl | (simp only [List.length_drop, List.length_take]; rfl)) ?_; (with_reducible refine (digits_Parse.calls k t152 t154 true _ ?side1 A3.out).mono ?_); (case side1 => exact GInv.below HG.out (by repeat (first | (with_reducible first | exact HB.out | apply below_alloc | apply pw_below_drewN | apply below_drew1) | exact HB.out))); rintro e w12 ⟨rfl, hb⟩; refine ⟨_, rfl, ?_⟩; have n0_ := Aside0.mk (below_step (by repeat (first | (with_reducible first | exact HB.out | apply below_alloc | apply pw_below_drewN | apply below_drew1) | exact HB.out)) hb); clear HB; have HB := n0_; clear n0_; (try clear hb); (try clear hb2); (try clear hk); (try clear hi)) | (go_at_call 5; (with_reducible refine (reply_Error.calls k (wrap64 (Int.tdiv t154 10000)) t156 _ ?side1 A6.out).mono ?_); (case side1 => exact GInv.below HG.out (by repeat (first | (with_reducible first | exact HB.out | apply below_alloc | apply pw_below_drewN | apply below_drew1) | exact HB.out))); rintro e w13 ⟨rfl, hb⟩; have n0_ := Aside0.mk (below_step (by repeat (first | (with_reducible first | exact HB.out | apply below_alloc | apply pw_below_drewN | apply below_drew1) | exact HB.out)) hb); clear HB; have HB := n0_; clear n0_; (try clear hb); (try clear hb2); (try clear hk); (try clear hi)))
    go_ret2
    exact ⟨by first | rfl | (simp [errW_none, errW_some] <;> rfl) | (simp [*, errW_none, errW_some] <;> rfl), by repeat (first | (with_reducible first | exact HB.out | apply below_alloc | apply pw_below_drewN | apply below_drew1) | exact HB.out)⟩
  ·replace c5 := Bool.eq_false_iff.mpr c5
   subst c5
   have H1 : (some (0, false)) = some (r1, r2) := by rw [if_neg (show ¬ (false = true) by decide)] at H; exact H
   clear H
   have H := H1
   clear H1
   simp only [Option.some.injEq, Prod.mk.injEq] at H
   obtain ⟨rfl, rfl⟩ := H
   go_enter Tryz.func6, Tryz.ntmps6
   go_wp2_with (first | ((with_reducible refine gate_callee (f := 20) rfl ?_); refine goesL_ (some 11) rfl rfl Tryz.func20 (by kernel_rfl) rfl #[.string a0, .string (⟨#[101, 114, 114, 111, 114, 32]⟩ : ByteArray)] rfl (by (try simp only [List.map_toArray, List.map_cons, List.map_nil]); first | done | rfl | (simp only [List.length_drop, List.length_take]; rfl)) ?_; (with_reducible refine (strings_CutPrefix.calls a0 (⟨#[101, 114, 114, 111, 114, 32]⟩ : ByteArray) t152 true _ A2.out).mono ?_); rintro e w14 ⟨rfl, hb⟩; refine ⟨_, rfl, ?_⟩; have n0_ := Aside0.mk (below_step (by repeat (first | (with_reducible first | exact HB.out | apply below_alloc | apply pw_below_drewN | apply below_drew1) | exact HB.out)) hb); clear HB; have HB := n0_; clear n0_; (try clear hb); (try clear hb2); (try clear hk); (try clear hi)) | ((with_reducible refine gate_callee (f := 21) rfl ?_); refine goesL_ (some 16) rfl rfl Tryz.func21 (by kernel_rfl) rfl #[.string t152] rfl (by (try simp only [List.map_toArray, List.map_cons, List.map_nil]); first | done | rfl | (simp only [List.length_drop, List.length_take]; rfl)) ?_; (with_reducible refine (digits_Parse.calls k t152 t154 false _ ?side1 A3.out).mono ?_); (case side1 => exact GInv.below HG.out (by repeat (first | (with_reducible first | exact HB.out | apply below_alloc | apply pw_below_drewN | apply below_drew1) | exact HB.out))); rintro e w15 ⟨rfl, hb⟩; refine ⟨_, rfl, ?_⟩; have n0_ := Aside0.mk (below_step (by repeat (first | (with_reducible first | exact HB.out | apply below_alloc | apply pw_below_drewN | apply below_drew1) | exact HB.out)) hb); clear HB; have HB := n0_; clear n0_; (try clear hb); (try clear hb2); (try clear hk); (try clear hi)))
   go_ret2
   exact ⟨by first | rfl | (simp [errW_none, errW_some] <;> rfl) | (simp [*, errW_none, errW_some] <;> rfl), by repeat (first | (with_reducible first | exact HB.out | apply below_alloc | apply pw_below_drewN | apply below_drew1) | exact HB.out)⟩
 ·replace c4 := Bool.eq_false_iff.mpr c4
  subst c4
  have H1 : (some (0, false)) = some (r1, r2) := by rw [if_neg (show ¬ (false = true) by decide)] at H; exact H
  clear H
  have H := H1
  clear H1
  simp only [Option.some.injEq, Prod.mk.injEq] at H
  obtain ⟨rfl, rfl⟩ := H
  go_enter Tryz.func6, Tryz.ntmps6
  go_wp2_with (first | ((with_reducible refine gate_callee (f := 20) rfl ?_); refine goesL_ (some 11) rfl rfl Tryz.func20 (by kernel_rfl) rfl #[.string a0, .string (⟨#[101, 114, 114, 111, 114, 32]⟩ : ByteArray)] rfl (by (try simp only [List.map_toArray, List.map_cons, List.map_nil]); first | done | rfl | (simp only [List.length_drop, List.length_take]; rfl)) ?_; (with_reducible refine (strings_CutPrefix.calls a0 (⟨#[101, 114, 114, 111, 114, 32]⟩ : ByteArray) t152 false _ A2.out).mono ?_); rintro e w16 ⟨rfl, hb⟩; refine ⟨_, rfl, ?_⟩; have n0_ := Aside0.mk (below_step (by repeat (first | (with_reducible first | exact HB.out | apply below_alloc | apply pw_below_drewN | apply below_drew1) | exact HB.out)) hb); clear HB; have HB := n0_; clear n0_; (try clear hb); (try clear hb2); (try clear hk); (try clear hi)) | ((with_reducible refine gate_callee (f := 21) rfl ?_); refine goesL_ (some 16) rfl rfl Tryz.func21 (by kernel_rfl) rfl #[.string t152] rfl (by (try simp only [List.map_toArray, List.map_cons, List.map_nil]); first | done | rfl | (simp only [List.length_drop, List.length_take]; rfl)) ?_; (with_reducible refine (digits_Parse.calls k t152 t154 t155 _ ?side1 A3.out).mono ?_); (case side1 => exact GInv.below HG.out (by repeat (first | (with_reducible first | exact HB.out | apply below_alloc | apply pw_below_drewN | apply below_drew1) | exact HB.out))); rintro e w17 ⟨rfl, hb⟩; refine ⟨_, rfl, ?_⟩; have n0_ := Aside0.mk (below_step (by repeat (first | (with_reducible first | exact HB.out | apply below_alloc | apply pw_below_drewN | apply below_drew1) | exact HB.out)) hb); clear HB; have HB := n0_; clear n0_; (try clear hb); (try clear hb2); (try clear hk); (try clear hi)))
  go_ret2
  exact ⟨by first | rfl | (simp [errW_none, errW_some] <;> rfl) | (simp [*, errW_none, errW_some] <;> rfl), by repeat (first | (with_reducible first | exact HB.out | apply below_alloc | apply pw_below_drewN | apply below_drew1) | exact HB.out)⟩
end Go.Proofs.YtaljjdodjimgdaaGreatDoor.P
namespace Go.Proofs.YtaljjdodjimgdaaGreatDoor.P
open Go.RowKit Go.Proofs.YtaljjdodjimgdaaGreatDoorW.PrintWords Go.Proofs.YtaljjdodjimgdaaGreatDoorW.PrintLast Go.Proofs.YtaljjdodjimgdaaGreatDoorW.PrintMore
attribute [local go_sem] max2_int min2_int max_two min_two max_three min_three max_four min_four
set_option linter.unusedVariables false
set_option linter.unusedSimpArgs false
def oculusref45_Error.f (k : Nat) (a0 : Int) : Option (ByteArray) := if a0 < 1 then (some (⟨#[]⟩ : ByteArray)) else (if a0 > 999 then (some (⟨#[]⟩ : ByteArray)) else ((oculusref01_Digits.f k a0).bind fun t256 => (if 6 + t256.size ≤ 9223372036854775807 then (some ((⟨#[101, 114, 114, 111, 114, 32]⟩ : ByteArray) ++ t256)) else (none))))
theorem oculusref45_Error.mono : ∀ a0 k, LeO (oculusref45_Error.f k a0) (oculusref45_Error.f (k + 1) a0) := by
 intro a0 k
 unfold oculusref45_Error.f
 repeat' first
   | (with_reducible exact oculusref01_Digits.mono _ _)
   | (with_reducible exact LeO.refl _)
   | (with_reducible exact LeO.none _)
   | (with_reducible refine LeO.ite ?_ ?_)
   | (with_reducible refine LeO.bind ?_ (fun _ => ?_))
   | exact oculusref01_Digits.mono _ _
   | exact LeO.none _
   | refine LeO.ite ?_ ?_
   | refine LeO.bind ?_ (fun _ => ?_)
set_option maxHeartbeats 8000000 in
set_option maxRecDepth 100000 in
theorem oculusref45_Error.calls (k : Nat) (a0 : Int) (r : ByteArray) (w : World) (h : oculusref45_Error.f k a0 = some r) :
  Calls Tryz.prog 7 #[.int .i64 a0] w fun e w' => e = .returned (.string r) ∧ Below w.heap.size w w' := by
 have HB := Aside0.mk (Below.refl w.heap.size w)
 have H : (if a0 < 1 then (some (⟨#[]⟩ : ByteArray)) else (if a0 > 999 then (some (⟨#[]⟩ : ByteArray)) else ((oculusref01_Digits.f k a0).bind fun t256 => (if 6 + t256.size ≤ 9223372036854775807 then (some ((⟨#[101, 114, 114, 111, 114, 32]⟩ : ByteArray) ++ t256)) else (none))))) = some r := h
 clear h
 by_cases c2 : a0 < 1
 ·rw [if_pos c2] at H
  have c2b0 : decide (a0 < 1) = true := decide_eq_true c2
  clear c2
  obtain rfl := Option.some.inj H
  go_enter Tryz.func7, Tryz.ntmps7
  go_wp2
  go_ret
  exact ⟨by first | rfl | (simp [errW_none, errW_some] <;> rfl) | (simp [*, errW_none, errW_some] <;> rfl), by repeat (first | (with_reducible first | exact HB.out | apply below_alloc | apply pw_below_drewN | apply below_drew1) | exact HB.out)⟩
 ·rw [if_neg c2] at H
  have c2b0 : decide (a0 < 1) = false := decide_eq_false c2
  clear c2
  by_cases c3 : a0 > 999
  ·rw [if_pos c3] at H
   have c3b0 : decide (999 < a0) = true := decide_eq_true c3
   clear c3
   obtain rfl := Option.some.inj H
   go_enter Tryz.func7, Tryz.ntmps7
   go_wp2
   go_ret
   exact ⟨by first | rfl | (simp [errW_none, errW_some] <;> rfl) | (simp [*, errW_none, errW_some] <;> rfl), by repeat (first | (with_reducible first | exact HB.out | apply below_alloc | apply pw_below_drewN | apply below_drew1) | exact HB.out)⟩
  ·rw [if_neg c3] at H
   have c3b0 : decide (999 < a0) = false := decide_eq_false c3
   clear c3
   replace H := Option.bind_eq_some_iff.mp H
   obtain ⟨t256, A40, H⟩ := H
   replace H : (if 6 + t256.size ≤ 9223372036854775807 then (some ((⟨#[101, 114, 114, 111, 114, 32]⟩ : ByteArray) ++ t256)) else (none)) = some r := H
   have A4 := Aside0.mk A40
   clear A40
   by_cases c5 : 6 + t256.size ≤ 9223372036854775807
   ·rw [if_pos c5] at H
    have c5b0 := eq_true c5
    have c5b1 : decide (6 + t256.size ≤ 9223372036854775807) = true := decide_eq_true c5
    try have c5b2 : (9223372036854775807 < 6 + t256.size) = False := eq_false (Nat.not_lt.2 c5)
    obtain rfl := Option.some.inj H
    go_enter Tryz.func7, Tryz.ntmps7
    go_wp2_with (first | ((with_reducible refine gate_callee (f := 22) rfl ?_); refine goesL_ (some 10) rfl rfl Tryz.func22 (by kernel_rfl) rfl #[.int .i64 a0] rfl (by (try simp only [List.map_toArray, List.map_cons, List.map_nil]); first | done | rfl | (simp only [List.length_drop, List.length_take]; rfl)) ?_; (with_reducible refine (oculusref01_Digits.calls k a0 t256 _ A4.out).mono ?_); rintro e w6 ⟨rfl, hb⟩; refine ⟨_, rfl, ?_⟩; have n0_ := Aside0.mk (below_step (by repeat (first | (with_reducible first | exact HB.out | apply below_alloc | apply pw_below_drewN | apply below_drew1) | exact HB.out)) hb); clear HB; have HB := n0_; clear n0_; (try clear hb); (try clear hb2); (try clear hk); (try clear hi)))
    go_ret
    exact ⟨by first | rfl | (simp [errW_none, errW_some] <;> rfl) | (simp [*, errW_none, errW_some] <;> rfl), by repeat (first | (with_reducible first | exact HB.out | apply below_alloc | apply pw_below_drewN | apply below_drew1) | exact HB.out)⟩
   ·rw [if_neg c5] at H
    exact absurd H (by simp)
end Go.Proofs.YtaljjdodjimgdaaGreatDoor.P
namespace Go.Proofs.YtaljjdodjimgdaaGreatDoor.P
open Go.RowKit Go.Proofs.YtaljjdodjimgdaaGreatDoorW.PrintWords Go.Proofs.YtaljjdodjimgdaaGreatDoorW.PrintLast Go.Proofs.YtaljjdodjimgdaaGreatDoorW.PrintMore
attribute [local go_sem] max2_int min2_int max_two min_two max_three min_three max_four min_four
set_option linter.unusedVariables false
set_option linter.unusedSimpArgs false
def oculusref45_ReadError.l0 : Nat → ByteArray → Int → Option (Int)
 | 0, _, _ => none
 | k + 1, x0, x3 => if x3 ≤ 999 then ((oculusref45_Error.f k x3).bind fun t257 => (if t257.toList = x0.toList then (some x3) else (oculusref45_ReadError.l0 k x0 (wrap64 (x3 + 1))))) else (some 0)
def oculusref45_ReadError.f (k : Nat) (a0 : ByteArray) : Option (Int) := oculusref45_ReadError.l0 k a0 1
theorem oculusref45_ReadError.mono_l : ∀ k, (∀ y0 y1, LeO (oculusref45_ReadError.l0 k y0 y1) (oculusref45_ReadError.l0 (k + 1) y0 y1))
 | 0 => fun _ _ r h => by simp [oculusref45_ReadError.l0] at h
 | k + 1 => by
  have ih0 := oculusref45_ReadError.mono_l k
  ·intro y0 y1
   unfold oculusref45_ReadError.l0
   repeat' first
   | (with_reducible exact ih0 _ _)
   | (with_reducible exact oculusref45_Error.mono _ _)
   | (with_reducible exact LeO.refl _)
   | (with_reducible exact LeO.none _)
   | (with_reducible refine LeO.ite ?_ ?_)
   | (with_reducible refine LeO.bind ?_ (fun _ => ?_))
   | exact ih0 _ _
   | exact oculusref45_Error.mono _ _
   | exact LeO.none _
   | refine LeO.ite ?_ ?_
   | refine LeO.bind ?_ (fun _ => ?_)
theorem oculusref45_ReadError.mono : ∀ a0 k, LeO (oculusref45_ReadError.f k a0) (oculusref45_ReadError.f (k + 1) a0) := by
 intro a0 k
 have ih0 := oculusref45_ReadError.mono_l k
 unfold oculusref45_ReadError.f
 repeat' first
   | (with_reducible exact ih0 _ _)
   | (with_reducible exact oculusref45_Error.mono _ _)
   | (with_reducible exact LeO.refl _)
   | (with_reducible exact LeO.none _)
   | (with_reducible refine LeO.ite ?_ ?_)
   | (with_reducible refine LeO.bind ?_ (fun _ => ?_))
   | exact ih0 _ _
   | exact oculusref45_Error.mono _ _
   | exact LeO.none _
   | refine LeO.ite ?_ ?_
   | refine LeO.bind ?_ (fun _ => ?_)
set_option maxHeartbeats 8000000 in
set_option maxRecDepth 100000 in
theorem oculusref45_ReadError.calls (k : Nat) (a0 : ByteArray) (r : Int) (w : World) (h : oculusref45_ReadError.f k a0 = some r) :
  Calls Tryz.prog 8 #[.string a0] w fun e w' => e = .returned (.int .i64 r) ∧ Below w.heap.size w w' := by
 have HB := Aside0.mk (Below.refl w.heap.size w)
 have H : (oculusref45_ReadError.l0 k a0 1) = some r := h
 clear h
 have H' := Aside0.mk H
 clear H
 go_enter Tryz.func8, Tryz.ntmps8
 go_wp2
 go_loopg [3] k (fun kq v3 w' => ∃ (x3_1 : Int), v3 = .int .i64 x3_1 ∧ Aside0 (oculusref45_ReadError.l0 kq a0 x3_1 = some r) ∧ Aside0 (kq ≤ k) ∧ Aside0 (Below w.heap.size w w'))
 case atStart => exact ⟨(1), (by first | rfl | (simp; done) | (simp [*]; done)), H', ⟨Nat.le_refl _⟩, ⟨by repeat (first | (with_reducible first | exact HB.out | apply below_alloc | apply pw_below_drewN | apply below_drew1) | exact HB.out)⟩⟩
 case round =>
  clear H'
  obtain ⟨x3_1, rfl, HA, HK1, HB⟩ := hrel
  cases gk with
  | zero => exact absurd HA.out (by simp [oculusref45_ReadError.l0])
  | succ k1 =>
   have H := HA.out
   clear HA
   simp only [oculusref45_ReadError.l0] at H
   by_cases c2 : x3_1 ≤ 999
   ·rw [if_pos c2] at H
    have c2b0 : decide (x3_1 ≤ 999) = true := decide_eq_true c2
    clear c2
    replace H := Option.bind_eq_some_iff.mp H
    obtain ⟨t257, A30, H⟩ := H
    replace H : (if t257.toList = a0.toList then (some x3_1) else (oculusref45_ReadError.l0 k1 a0 (wrap64 (x3_1 + 1)))) = some r := H
    have A3 := Aside0.mk A30
    clear A30
    by_cases c4 : t257.toList = a0.toList
    ·rw [if_pos c4] at H
     have c4b0 : (t257.toList == a0.toList) = true := beq_iff_eq.mpr c4
     have c4b1 : (t257.toList != a0.toList) = false := bne_eq_false_iff_eq.mpr c4
     clear c4
     obtain rfl := Option.some.inj H
     go_wp2_with (first | ((with_reducible refine gate_callee (f := 7) rfl ?_); refine goesL_ (some 9) rfl rfl Tryz.func7 (by kernel_rfl) rfl #[.int .i64 x3_1] rfl (by (try simp only [List.map_toArray, List.map_cons, List.map_nil]); first | done | rfl | (simp only [List.length_drop, List.length_take]; rfl)) ?_; (with_reducible refine (oculusref45_Error.calls k1 x3_1 t257 _ A3.out).mono ?_); rintro e w5 ⟨rfl, hb⟩; refine ⟨_, rfl, ?_⟩; have n0_ := Aside0.mk (below_step (by repeat (first | (with_reducible first | exact HB.out | apply below_alloc | apply pw_below_drewN | apply below_drew1) | exact HB.out)) hb); clear HB; have HB := n0_; clear n0_; (try clear hb); (try clear hb2); (try clear hk); (try clear hi)))
     go_ret
     exact ⟨by first | rfl | (simp [errW_none, errW_some] <;> rfl) | (simp [*, errW_none, errW_some] <;> rfl), by repeat (first | (with_reducible first | exact HB.out | apply below_alloc | apply pw_below_drewN | apply below_drew1) | exact HB.out)⟩
    ·rw [if_neg c4] at H
     have c4b0 : (t257.toList == a0.toList) = false := beq_eq_false_iff_ne.mpr c4
     have c4b1 : (t257.toList != a0.toList) = true := bne_iff_ne.mpr c4
     have H' := Aside0.mk H
     clear H
     go_wp2_with (first | ((with_reducible refine gate_callee (f := 7) rfl ?_); refine goesL_ (some 9) rfl rfl Tryz.func7 (by kernel_rfl) rfl #[.int .i64 x3_1] rfl (by (try simp only [List.map_toArray, List.map_cons, List.map_nil]); first | done | rfl | (simp only [List.length_drop, List.length_take]; rfl)) ?_; (with_reducible refine (oculusref45_Error.calls k1 x3_1 t257 _ A3.out).mono ?_); rintro e w6 ⟨rfl, hb⟩; refine ⟨_, rfl, ?_⟩; have n0_ := Aside0.mk (below_step (by repeat (first | (with_reducible first | exact HB.out | apply below_alloc | apply pw_below_drewN | apply below_drew1) | exact HB.out)) hb); clear HB; have HB := n0_; clear n0_; (try clear hb); (try clear hb2); (try clear hk); (try clear hi)))
     go_roundg k1
     case measure => have := HK1.out; omega
     case rel => exact ⟨(wrap64 (x3_1 + 1)), (by first | rfl | (simp; done) | (simp [*]; done)), H', ⟨by have := HK1.out; omega⟩, ⟨by repeat (first | (with_reducible first | exact HB.out | apply below_alloc | apply pw_below_drewN | apply below_drew1) | exact HB.out)⟩⟩
   ·rw [if_neg c2] at H
    have c2b0 : decide (x3_1 ≤ 999) = false := decide_eq_false c2
    clear c2
    obtain rfl := Option.some.inj H
    go_wp2
    go_ret
    exact ⟨by first | rfl | (simp [errW_none, errW_some] <;> rfl) | (simp [*, errW_none, errW_some] <;> rfl), by repeat (first | (with_reducible first | exact HB.out | apply below_alloc | apply pw_below_drewN | apply below_drew1) | exact HB.out)⟩
end Go.Proofs.YtaljjdodjimgdaaGreatDoor.P
namespace Go.Proofs.YtaljjdodjimgdaaGreatDoor.P
open Go.RowKit Go.Proofs.YtaljjdodjimgdaaGreatDoorW.PrintWords Go.Proofs.YtaljjdodjimgdaaGreatDoorW.PrintLast Go.Proofs.YtaljjdodjimgdaaGreatDoorW.PrintMore
attribute [local go_sem] max2_int min2_int max_two min_two max_three min_three max_four min_four
set_option linter.unusedVariables false
set_option linter.unusedSimpArgs false
def reply_ReadCost.f (a0 : ByteArray) : Option (Int × Int × Int × Int × Int × Bool) := (strings_CutPrefix.f a0 (⟨#[99, 111, 115, 116, 32]⟩ : ByteArray)).bind fun bt265 => (if bt265.2 = true then ((meter_Parse.f bt265.1).bind fun bt267 => (some (bt267.1, bt267.2.1, bt267.2.2.1, bt267.2.2.2.1, bt267.2.2.2.2.1, bt267.2.2.2.2.2))) else (some (0, 0, 0, 0, 0, false)))
set_option maxHeartbeats 8000000 in
set_option maxRecDepth 100000 in
theorem reply_ReadCost.calls (a0 : ByteArray) (r1 : Int) (r2 : Int) (r3 : Int) (r4 : Int) (r5 : Int) (r6 : Bool) (w : World) (hG : GInv2 w) (h : reply_ReadCost.f a0 = some (r1, r2, r3, r4, r5, r6)) :
  Calls Tryz.prog 10 #[.string a0] w fun e w' => e = .returned (.tuple #[.agg #[.int .i64 r1, .int .i64 r2, .int .i64 r3, .int .i64 r4, .int .i64 r5], .bool r6]) ∧ Below w.heap.size w w' := by
 have hu23 := Tryz.underlying23
 have HG := Aside0.mk hG
 clear hG
 have HB := Aside0.mk (Below.refl w.heap.size w)
 have H : ((strings_CutPrefix.f a0 (⟨#[99, 111, 115, 116, 32]⟩ : ByteArray)).bind fun bt265 => (if bt265.2 = true then ((meter_Parse.f bt265.1).bind fun bt267 => (some (bt267.1, bt267.2.1, bt267.2.2.1, bt267.2.2.2.1, bt267.2.2.2.2.1, bt267.2.2.2.2.2))) else (some (0, 0, 0, 0, 0, false)))) = some (r1, r2, r3, r4, r5, r6) := h
 clear h
 replace H := Option.bind_eq_some_iff.mp H
 obtain ⟨⟨t265, t266⟩, A20, H⟩ := H
 replace H : (if t266 = true then ((meter_Parse.f t265).bind fun bt267 => (some (bt267.1, bt267.2.1, bt267.2.2.1, bt267.2.2.2.1, bt267.2.2.2.2.1, bt267.2.2.2.2.2))) else (some (0, 0, 0, 0, 0, false))) = some (r1, r2, r3, r4, r5, r6) := H
 have A2 := Aside0.mk A20
 clear A20
 by_cases c3 : t266 = true
 ·subst c3
  have H1 : ((meter_Parse.f t265).bind fun bt267 => (some (bt267.1, bt267.2.1, bt267.2.2.1, bt267.2.2.2.1, bt267.2.2.2.2.1, bt267.2.2.2.2.2))) = some (r1, r2, r3, r4, r5, r6) := by rw [if_pos rfl] at H; exact H
  clear H
  have H := H1
  clear H1
  replace H := Option.bind_eq_some_iff.mp H
  obtain ⟨⟨t267, t268, t269, t270, t271, t272⟩, A40, H⟩ := H
  replace H : (some (t267, t268, t269, t270, t271, t272)) = some (r1, r2, r3, r4, r5, r6) := H
  have A4 := Aside0.mk A40
  clear A40
  simp only [Option.some.injEq, Prod.mk.injEq] at H
  obtain ⟨rfl, rfl, rfl, rfl, rfl, rfl⟩ := H
  go_enter Tryz.func10, Tryz.ntmps10
  go_wp2_with (first | ((with_reducible refine gate_dst (N := 2) rfl ?_); refine box_event ?hg (N := 2) ?hd (cs := #[.int .i64 0, .int .i64 0, .int .i64 0, .int .i64 0, .int .i64 0]) (t := 23) ?hr ?_; (case hd => rfl); (case hg => rfl); (case hr => first | (go_simp; done) | (go_simp; rfl)); intro gb264 hg w5 hbox hb; have n0_ := Aside0.mk (below_step (by repeat (first | (with_reducible first | exact HB.out | apply below_alloc | apply pw_below_drewN | apply below_drew1) | exact HB.out)) hb); have n1_ := Aside0.mk (hbox); have n2_ := Aside0.mk ((by rw [hg]; exact (below_size (by repeat (first | (with_reducible first | exact HB.out | apply below_alloc | apply pw_below_drewN | apply below_drew1) | exact HB.out))) : w.heap.size ≤ gb264)); have n3_ := Aside0.mk ((by rw [hg]; exact (below_size (by repeat (first | (with_reducible first | exact HB.out | apply below_alloc | apply pw_below_drewN | apply below_drew1) | exact HB.out))) : w.heap.size ≤ gb264)); clear HB; have HB := n0_; have BK264 := n1_; have GW264 := n2_; have GE264 := n3_; clear n0_ n1_ n2_ n3_; clear hb hbox hg) | ((with_reducible refine gate_callee (f := 20) rfl ?_); refine goesL_ (some 8) rfl rfl Tryz.func20 (by kernel_rfl) rfl #[.string a0, .string (⟨#[99, 111, 115, 116, 32]⟩ : ByteArray)] rfl (by (try simp only [List.map_toArray, List.map_cons, List.map_nil]); first | done | rfl | (simp only [List.length_drop, List.length_take]; rfl)) ?_; (with_reducible refine (strings_CutPrefix.calls a0 (⟨#[99, 111, 115, 116, 32]⟩ : ByteArray) t265 true _ A2.out).mono ?_); rintro e w6 ⟨rfl, hb⟩; refine ⟨_, rfl, ?_⟩; have n0_ := Aside0.mk (blk_below (g := gb264) (o := .cells #[.int .i64 0, .int .i64 0, .int .i64 0, .int .i64 0, .int .i64 0] 23 (0, 0)) (by (with_reducible repeat (first | refine blk_drewN ?_ _ | refine blk_drew ?_ | refine blk_alloc ?_ _)); exact BK264.out) hb); have n1_ := Aside0.mk (below_step (by repeat (first | (with_reducible first | exact HB.out | apply below_alloc | apply pw_below_drewN | apply below_drew1 | refine below_set ?_ GE264.out) | exact HB.out)) hb); clear BK264; clear HB; have BK264 := n0_; have HB := n1_; clear n0_ n1_; (try clear hb); (try clear hb2); (try clear hk); (try clear hi)) | ((with_reducible refine gate_callee (f := 24) rfl ?_); refine goesL_ (some 15) rfl rfl Tryz.func24 (by kernel_rfl) rfl #[.string t265] rfl (by (try simp only [List.map_toArray, List.map_cons, List.map_nil]); first | done | rfl | (simp only [List.length_drop, List.length_take]; rfl)) ?_; (with_reducible refine (meter_Parse.calls t265 t267 t268 t269 t270 t271 t272 _ ?side1 A4.out).mono ?_); (case side1 => exact GInv2.below HG.out (by repeat (first | (with_reducible first | exact HB.out | apply below_alloc | apply pw_below_drewN | apply below_drew1 | refine below_set ?_ GE264.out) | exact HB.out))); rintro e w7 ⟨rfl, hb⟩; refine ⟨_, rfl, ?_⟩; have n0_ := Aside0.mk (blk_below (g := gb264) (o := .cells #[.int .i64 0, .int .i64 0, .int .i64 0, .int .i64 0, .int .i64 0] 23 (0, 0)) (by (with_reducible repeat (first | refine blk_drewN ?_ _ | refine blk_drew ?_ | refine blk_alloc ?_ _)); exact BK264.out) hb); have n1_ := Aside0.mk (below_step (by repeat (first | (with_reducible first | exact HB.out | apply below_alloc | apply pw_below_drewN | apply below_drew1 | refine below_set ?_ GE264.out) | exact HB.out)) hb); clear BK264; clear HB; have BK264 := n0_; have HB := n1_; clear n0_ n1_; (try clear hb); (try clear hb2); (try clear hk); (try clear hi); have hcz8_0 : w7.cell? ⟨gb264, 0, none⟩ = some (.int .i64 0) := (blk_cell BK264.out 0).trans rfl; have hcz8_1 : w7.cell? ⟨gb264, 1, none⟩ = some (.int .i64 0) := (blk_cell BK264.out 1).trans rfl; have hcz8_2 : w7.cell? ⟨gb264, 2, none⟩ = some (.int .i64 0) := (blk_cell BK264.out 2).trans rfl; have hcz8_3 : w7.cell? ⟨gb264, 3, none⟩ = some (.int .i64 0) := (blk_cell BK264.out 3).trans rfl; have hcz8_4 : w7.cell? ⟨gb264, 4, none⟩ = some (.int .i64 0) := (blk_cell BK264.out 4).trans rfl; have hfz8_0 := blk_frozen BK264.out 0; have hfz8_1 := blk_frozen BK264.out 1; have hfz8_2 := blk_frozen BK264.out 2; have hfz8_3 := blk_frozen BK264.out 3; have hfz8_4 := blk_frozen BK264.out 4))
  refine bodyPost_ret (results_ct rfl _ _ gb264 23 #[.int .i64 t267, .int .i64 t268, .int .i64 t269, .int .i64 t270, .int .i64 t271] (0, 0) _ rfl (by (with_reducible repeat (first | refine blk_drewN ?_ _ | refine blk_drew ?_ | refine blk_alloc ?_ _)); refine blk_put (cs := #[.int .i64 t267, .int .i64 t268, .int .i64 t269, .int .i64 t270, .int .i64 0]) ?_ 4 _ rfl; (with_reducible repeat (first | refine blk_drewN ?_ _ | refine blk_drew ?_ | refine blk_alloc ?_ _)); refine blk_put (cs := #[.int .i64 t267, .int .i64 t268, .int .i64 t269, .int .i64 0, .int .i64 0]) ?_ 3 _ rfl; (with_reducible repeat (first | refine blk_drewN ?_ _ | refine blk_drew ?_ | refine blk_alloc ?_ _)); refine blk_put (cs := #[.int .i64 t267, .int .i64 t268, .int .i64 0, .int .i64 0, .int .i64 0]) ?_ 2 _ rfl; (with_reducible repeat (first | refine blk_drewN ?_ _ | refine blk_drew ?_ | refine blk_alloc ?_ _)); refine blk_put (cs := #[.int .i64 t267, .int .i64 0, .int .i64 0, .int .i64 0, .int .i64 0]) ?_ 1 _ rfl; (with_reducible repeat (first | refine blk_drewN ?_ _ | refine blk_drew ?_ | refine blk_alloc ?_ _)); refine blk_put (cs := #[.int .i64 0, .int .i64 0, .int .i64 0, .int .i64 0, .int .i64 0]) ?_ 0 _ rfl; (with_reducible repeat (first | refine blk_drewN ?_ _ | refine blk_drew ?_ | refine blk_alloc ?_ _)); exact BK264.out) Tryz.underlying23 rfl (by kernel_rfl)) rfl ?_
  exact ⟨by first | rfl | (simp [errW_none, errW_some] <;> rfl) | (simp [*, errW_none, errW_some] <;> rfl), by repeat (first | (with_reducible first | exact HB.out | apply below_alloc | apply pw_below_drewN | apply below_drew1 | refine below_set ?_ GE264.out) | exact HB.out)⟩
 ·replace c3 := Bool.eq_false_iff.mpr c3
  subst c3
  have H1 : (some (0, 0, 0, 0, 0, false)) = some (r1, r2, r3, r4, r5, r6) := by rw [if_neg (show ¬ (false = true) by decide)] at H; exact H
  clear H
  have H := H1
  clear H1
  simp only [Option.some.injEq, Prod.mk.injEq] at H
  obtain ⟨rfl, rfl, rfl, rfl, rfl, rfl⟩ := H
  go_enter Tryz.func10, Tryz.ntmps10
  go_wp2_with (first | ((with_reducible refine gate_dst (N := 2) rfl ?_); refine box_event ?hg (N := 2) ?hd (cs := #[.int .i64 0, .int .i64 0, .int .i64 0, .int .i64 0, .int .i64 0]) (t := 23) ?hr ?_; (case hd => rfl); (case hg => rfl); (case hr => first | (go_simp; done) | (go_simp; rfl)); intro gb264 hg w9 hbox hb; have n0_ := Aside0.mk (below_step (by repeat (first | (with_reducible first | exact HB.out | apply below_alloc | apply pw_below_drewN | apply below_drew1) | exact HB.out)) hb); have n1_ := Aside0.mk (hbox); have n2_ := Aside0.mk ((by rw [hg]; exact (below_size (by repeat (first | (with_reducible first | exact HB.out | apply below_alloc | apply pw_below_drewN | apply below_drew1) | exact HB.out))) : w.heap.size ≤ gb264)); have n3_ := Aside0.mk ((by rw [hg]; exact (below_size (by repeat (first | (with_reducible first | exact HB.out | apply below_alloc | apply pw_below_drewN | apply below_drew1) | exact HB.out))) : w.heap.size ≤ gb264)); clear HB; have HB := n0_; have BK264 := n1_; have GW264 := n2_; have GE264 := n3_; clear n0_ n1_ n2_ n3_; clear hb hbox hg) | ((with_reducible refine gate_callee (f := 20) rfl ?_); refine goesL_ (some 8) rfl rfl Tryz.func20 (by kernel_rfl) rfl #[.string a0, .string (⟨#[99, 111, 115, 116, 32]⟩ : ByteArray)] rfl (by (try simp only [List.map_toArray, List.map_cons, List.map_nil]); first | done | rfl | (simp only [List.length_drop, List.length_take]; rfl)) ?_; (with_reducible refine (strings_CutPrefix.calls a0 (⟨#[99, 111, 115, 116, 32]⟩ : ByteArray) t265 false _ A2.out).mono ?_); rintro e w10 ⟨rfl, hb⟩; refine ⟨_, rfl, ?_⟩; have n0_ := Aside0.mk (blk_below (g := gb264) (o := .cells #[.int .i64 0, .int .i64 0, .int .i64 0, .int .i64 0, .int .i64 0] 23 (0, 0)) (by (with_reducible repeat (first | refine blk_drewN ?_ _ | refine blk_drew ?_ | refine blk_alloc ?_ _)); exact BK264.out) hb); have n1_ := Aside0.mk (below_step (by repeat (first | (with_reducible first | exact HB.out | apply below_alloc | apply pw_below_drewN | apply below_drew1 | refine below_set ?_ GE264.out) | exact HB.out)) hb); clear BK264; clear HB; have BK264 := n0_; have HB := n1_; clear n0_ n1_; (try clear hb); (try clear hb2); (try clear hk); (try clear hi); have hcz11_0 : w10.cell? ⟨gb264, 0, none⟩ = some (.int .i64 0) := (blk_cell BK264.out 0).trans rfl; have hcz11_1 : w10.cell? ⟨gb264, 1, none⟩ = some (.int .i64 0) := (blk_cell BK264.out 1).trans rfl; have hcz11_2 : w10.cell? ⟨gb264, 2, none⟩ = some (.int .i64 0) := (blk_cell BK264.out 2).trans rfl; have hcz11_3 : w10.cell? ⟨gb264, 3, none⟩ = some (.int .i64 0) := (blk_cell BK264.out 3).trans rfl; have hcz11_4 : w10.cell? ⟨gb264, 4, none⟩ = some (.int .i64 0) := (blk_cell BK264.out 4).trans rfl; have hfz11_0 := blk_frozen BK264.out 0; have hfz11_1 := blk_frozen BK264.out 1; have hfz11_2 := blk_frozen BK264.out 2; have hfz11_3 := blk_frozen BK264.out 3; have hfz11_4 := blk_frozen BK264.out 4))
  refine bodyPost_ret (results_ct rfl _ _ gb264 23 #[.int .i64 0, .int .i64 0, .int .i64 0, .int .i64 0, .int .i64 0] (0, 0) _ rfl (by (with_reducible repeat (first | refine blk_drewN ?_ _ | refine blk_drew ?_ | refine blk_alloc ?_ _)); refine blk_put (cs := #[.int .i64 0, .int .i64 0, .int .i64 0, .int .i64 0, .int .i64 0]) ?_ 4 _ rfl; (with_reducible repeat (first | refine blk_drewN ?_ _ | refine blk_drew ?_ | refine blk_alloc ?_ _)); refine blk_put (cs := #[.int .i64 0, .int .i64 0, .int .i64 0, .int .i64 0, .int .i64 0]) ?_ 3 _ rfl; (with_reducible repeat (first | refine blk_drewN ?_ _ | refine blk_drew ?_ | refine blk_alloc ?_ _)); refine blk_put (cs := #[.int .i64 0, .int .i64 0, .int .i64 0, .int .i64 0, .int .i64 0]) ?_ 2 _ rfl; (with_reducible repeat (first | refine blk_drewN ?_ _ | refine blk_drew ?_ | refine blk_alloc ?_ _)); refine blk_put (cs := #[.int .i64 0, .int .i64 0, .int .i64 0, .int .i64 0, .int .i64 0]) ?_ 1 _ rfl; (with_reducible repeat (first | refine blk_drewN ?_ _ | refine blk_drew ?_ | refine blk_alloc ?_ _)); refine blk_put (cs := #[.int .i64 0, .int .i64 0, .int .i64 0, .int .i64 0, .int .i64 0]) ?_ 0 _ rfl; (with_reducible repeat (first | refine blk_drewN ?_ _ | refine blk_drew ?_ | refine blk_alloc ?_ _)); exact BK264.out) Tryz.underlying23 rfl (by kernel_rfl)) rfl ?_
  exact ⟨by first | rfl | (simp [errW_none, errW_some] <;> rfl) | (simp [*, errW_none, errW_some] <;> rfl), by repeat (first | (with_reducible first | exact HB.out | apply below_alloc | apply pw_below_drewN | apply below_drew1 | refine below_set ?_ GE264.out) | exact HB.out)⟩
end Go.Proofs.YtaljjdodjimgdaaGreatDoor.P
namespace Go.Proofs.YtaljjdodjimgdaaGreatDoor.P
open Go.RowKit Go.Proofs.YtaljjdodjimgdaaGreatDoorW.PrintWords Go.Proofs.YtaljjdodjimgdaaGreatDoorW.PrintLast Go.Proofs.YtaljjdodjimgdaaGreatDoorW.PrintMore
attribute [local go_sem] max2_int min2_int max_two min_two max_three min_three max_four min_four
set_option linter.unusedVariables false
set_option linter.unusedSimpArgs false
def oculusref36_right.f (a0 : Int) : Option (Bool) := if a0 ≥ 0 then (some (decide (a0 ≤ 1000000000))) else (some false)
set_option maxHeartbeats 8000000 in
set_option maxRecDepth 100000 in
theorem oculusref36_right.calls (a0 : Int) (r : Bool) (w : World) (h : oculusref36_right.f a0 = some r) :
  Calls Tryz.prog 23 #[.int .i64 a0] w fun e w' => e = .returned (.bool r) ∧ Drawn0 w w' := by
 have H : (if a0 ≥ 0 then (some (decide (a0 ≤ 1000000000))) else (some false)) = some r := h
 clear h
 by_cases c2 : a0 ≥ 0
 ·rw [if_pos c2] at H
  have c2b0 : decide (0 ≤ a0) = true := decide_eq_true c2
  clear c2
  obtain rfl := Option.some.inj H
  go_enter Tryz.func23, Tryz.ntmps23
  go_wp2
  go_ret
  exact ⟨by first | rfl | (simp; done) | (simp [*]; done), by repeat (first | exact Drawn0.refl _ | apply Drawn0.step)⟩
 ·rw [if_neg c2] at H
  have c2b0 : decide (0 ≤ a0) = false := decide_eq_false c2
  clear c2
  obtain rfl := Option.some.inj H
  go_enter Tryz.func23, Tryz.ntmps23
  go_wp2
  go_ret
  exact ⟨by first | rfl | (simp; done) | (simp [*]; done), by repeat (first | exact Drawn0.refl _ | apply Drawn0.step)⟩
def oculusref36_Right.f (a0_0 : Int) (a0_1 : Int) (a0_2 : Int) (a0_3 : Int) (a0_4 : Int) : Option (Bool) := (oculusref36_right.f a0_0).bind fun t259 => (if t259 = true then ((oculusref36_right.f a0_1).bind fun t260 => (if t260 = true then ((oculusref36_right.f a0_2).bind fun t261 => (if t261 = true then ((oculusref36_right.f a0_3).bind fun t262 => (if t262 = true then ((oculusref36_right.f a0_4).bind fun t263 => (some t263)) else (some false))) else (some false))) else (some false))) else (some false))
set_option maxHeartbeats 8000000 in
set_option maxRecDepth 100000 in
theorem oculusref36_Right.calls (a0_0 : Int) (a0_1 : Int) (a0_2 : Int) (a0_3 : Int) (a0_4 : Int) (r : Bool) (w : World) (h : oculusref36_Right.f a0_0 a0_1 a0_2 a0_3 a0_4 = some r) :
  Calls Tryz.prog 9 #[.agg #[.int .i64 a0_0, .int .i64 a0_1, .int .i64 a0_2, .int .i64 a0_3, .int .i64 a0_4]] w fun e w' => e = .returned (.bool r) ∧ Below w.heap.size w w' := by
 have hu23 := Tryz.underlying23
 have HB := Aside0.mk (Below.refl w.heap.size w)
 have H : ((oculusref36_right.f a0_0).bind fun t259 => (if t259 = true then ((oculusref36_right.f a0_1).bind fun t260 => (if t260 = true then ((oculusref36_right.f a0_2).bind fun t261 => (if t261 = true then ((oculusref36_right.f a0_3).bind fun t262 => (if t262 = true then ((oculusref36_right.f a0_4).bind fun t263 => (some t263)) else (some false))) else (some false))) else (some false))) else (some false))) = some r := h
 clear h
 replace H := Option.bind_eq_some_iff.mp H
 obtain ⟨t259, A20, H⟩ := H
 replace H : (if t259 = true then ((oculusref36_right.f a0_1).bind fun t260 => (if t260 = true then ((oculusref36_right.f a0_2).bind fun t261 => (if t261 = true then ((oculusref36_right.f a0_3).bind fun t262 => (if t262 = true then ((oculusref36_right.f a0_4).bind fun t263 => (some t263)) else (some false))) else (some false))) else (some false))) else (some false)) = some r := H
 have A2 := Aside0.mk A20
 clear A20
 by_cases c3 : t259 = true
 ·subst c3
  have H1 : ((oculusref36_right.f a0_1).bind fun t260 => (if t260 = true then ((oculusref36_right.f a0_2).bind fun t261 => (if t261 = true then ((oculusref36_right.f a0_3).bind fun t262 => (if t262 = true then ((oculusref36_right.f a0_4).bind fun t263 => (some t263)) else (some false))) else (some false))) else (some false))) = some r := by rw [if_pos rfl] at H; exact H
  clear H
  have H := H1
  clear H1
  replace H := Option.bind_eq_some_iff.mp H
  obtain ⟨t260, A40, H⟩ := H
  replace H : (if t260 = true then ((oculusref36_right.f a0_2).bind fun t261 => (if t261 = true then ((oculusref36_right.f a0_3).bind fun t262 => (if t262 = true then ((oculusref36_right.f a0_4).bind fun t263 => (some t263)) else (some false))) else (some false))) else (some false)) = some r := H
  have A4 := Aside0.mk A40
  clear A40
  by_cases c5 : t260 = true
  ·subst c5
   have H1 : ((oculusref36_right.f a0_2).bind fun t261 => (if t261 = true then ((oculusref36_right.f a0_3).bind fun t262 => (if t262 = true then ((oculusref36_right.f a0_4).bind fun t263 => (some t263)) else (some false))) else (some false))) = some r := by rw [if_pos rfl] at H; exact H
   clear H
   have H := H1
   clear H1
   replace H := Option.bind_eq_some_iff.mp H
   obtain ⟨t261, A60, H⟩ := H
   replace H : (if t261 = true then ((oculusref36_right.f a0_3).bind fun t262 => (if t262 = true then ((oculusref36_right.f a0_4).bind fun t263 => (some t263)) else (some false))) else (some false)) = some r := H
   have A6 := Aside0.mk A60
   clear A60
   by_cases c7 : t261 = true
   ·subst c7
    have H1 : ((oculusref36_right.f a0_3).bind fun t262 => (if t262 = true then ((oculusref36_right.f a0_4).bind fun t263 => (some t263)) else (some false))) = some r := by rw [if_pos rfl] at H; exact H
    clear H
    have H := H1
    clear H1
    replace H := Option.bind_eq_some_iff.mp H
    obtain ⟨t262, A80, H⟩ := H
    replace H : (if t262 = true then ((oculusref36_right.f a0_4).bind fun t263 => (some t263)) else (some false)) = some r := H
    have A8 := Aside0.mk A80
    clear A80
    by_cases c9 : t262 = true
    ·subst c9
     have H1 : ((oculusref36_right.f a0_4).bind fun t263 => (some t263)) = some r := by rw [if_pos rfl] at H; exact H
     clear H
     have H := H1
     clear H1
     replace H := Option.bind_eq_some_iff.mp H
     obtain ⟨t263, A100, H⟩ := H
     replace H : (some t263) = some r := H
     have A10 := Aside0.mk A100
     clear A100
     obtain rfl := Option.some.inj H
     go_enter Tryz.func9, Tryz.ntmps9
     go_wp2_with (first | ((with_reducible refine gate_dst (N := 1) rfl ?_); refine box_event ?hg (N := 1) ?hd (cs := #[.int .i64 a0_0, .int .i64 a0_1, .int .i64 a0_2, .int .i64 a0_3, .int .i64 a0_4]) (t := 23) ?hr ?_; (case hd => rfl); (case hg => rfl); (case hr => first | (go_simp; done) | (go_simp; rfl)); intro gb258 hg w11 hbox hb; have n0_ := Aside0.mk (below_step (by repeat (first | (with_reducible first | exact HB.out | apply below_alloc | apply pw_below_drewN | apply below_drew1) | exact HB.out)) hb); have n1_ := Aside0.mk (hbox); have n2_ := Aside0.mk ((by rw [hg]; exact (below_size (by repeat (first | (with_reducible first | exact HB.out | apply below_alloc | apply pw_below_drewN | apply below_drew1) | exact HB.out))) : w.heap.size ≤ gb258)); have n3_ := Aside0.mk ((by rw [hg]; exact (below_size (by repeat (first | (with_reducible first | exact HB.out | apply below_alloc | apply pw_below_drewN | apply below_drew1) | exact HB.out))) : w.heap.size ≤ gb258)); clear HB; have HB := n0_; have BK258 := n1_; have GW258 := n2_; have GE258 := n3_; clear n0_ n1_ n2_ n3_; clear hb hbox hg; have hcz12_0 : w11.cell? ⟨gb258, 0, none⟩ = some (.int .i64 a0_0) := (blk_cell BK258.out 0).trans rfl; have hcz12_1 : w11.cell? ⟨gb258, 1, none⟩ = some (.int .i64 a0_1) := (blk_cell BK258.out 1).trans rfl; have hcz12_2 : w11.cell? ⟨gb258, 2, none⟩ = some (.int .i64 a0_2) := (blk_cell BK258.out 2).trans rfl; have hcz12_3 : w11.cell? ⟨gb258, 3, none⟩ = some (.int .i64 a0_3) := (blk_cell BK258.out 3).trans rfl; have hcz12_4 : w11.cell? ⟨gb258, 4, none⟩ = some (.int .i64 a0_4) := (blk_cell BK258.out 4).trans rfl; have hfz12_0 := blk_frozen BK258.out 0; have hfz12_1 := blk_frozen BK258.out 1; have hfz12_2 := blk_frozen BK258.out 2; have hfz12_3 := blk_frozen BK258.out 3; have hfz12_4 := blk_frozen BK258.out 4) | ((with_reducible refine gate_callee (f := 23) rfl ?_); refine goesL_ (some 5) rfl rfl Tryz.func23 (by kernel_rfl) rfl #[.int .i64 a0_0] rfl (by (try simp only [List.map_toArray, List.map_cons, List.map_nil]); first | done | rfl | (simp only [List.length_drop, List.length_take]; rfl)) ?_; (with_reducible refine (oculusref36_right.calls a0_0 true _ A2.out).mono ?_); rintro e w' ⟨rfl, ⟨nd, rfl⟩⟩; refine ⟨_, rfl, ?_⟩) | (go_at_call 23; (with_reducible refine (oculusref36_right.calls a0_1 true _ A4.out).mono ?_); rintro e w' ⟨rfl, ⟨nd, rfl⟩⟩) | (go_at_call 23; (with_reducible refine (oculusref36_right.calls a0_2 true _ A6.out).mono ?_); rintro e w' ⟨rfl, ⟨nd, rfl⟩⟩) | (go_at_call 23; (with_reducible refine (oculusref36_right.calls a0_3 true _ A8.out).mono ?_); rintro e w' ⟨rfl, ⟨nd, rfl⟩⟩) | (go_at_call 23; (with_reducible refine (oculusref36_right.calls a0_4 t263 _ A10.out).mono ?_); rintro e w' ⟨rfl, ⟨nd, rfl⟩⟩))
     go_ret
     exact ⟨by first | rfl | (simp [errW_none, errW_some] <;> rfl) | (simp [*, errW_none, errW_some] <;> rfl), by repeat (first | (with_reducible first | exact HB.out | apply below_alloc | apply pw_below_drewN | apply below_drew1 | refine below_set ?_ GE258.out) | exact HB.out)⟩
    ·replace c9 := Bool.eq_false_iff.mpr c9
     subst c9
     have H1 : (some false) = some r := by rw [if_neg (show ¬ (false = true) by decide)] at H; exact H
     clear H
     have H := H1
     clear H1
     obtain rfl := Option.some.inj H
     go_enter Tryz.func9, Tryz.ntmps9
     go_wp2_with (first | ((with_reducible refine gate_dst (N := 1) rfl ?_); refine box_event ?hg (N := 1) ?hd (cs := #[.int .i64 a0_0, .int .i64 a0_1, .int .i64 a0_2, .int .i64 a0_3, .int .i64 a0_4]) (t := 23) ?hr ?_; (case hd => rfl); (case hg => rfl); (case hr => first | (go_simp; done) | (go_simp; rfl)); intro gb258 hg w13 hbox hb; have n0_ := Aside0.mk (below_step (by repeat (first | (with_reducible first | exact HB.out | apply below_alloc | apply pw_below_drewN | apply below_drew1) | exact HB.out)) hb); have n1_ := Aside0.mk (hbox); have n2_ := Aside0.mk ((by rw [hg]; exact (below_size (by repeat (first | (with_reducible first | exact HB.out | apply below_alloc | apply pw_below_drewN | apply below_drew1) | exact HB.out))) : w.heap.size ≤ gb258)); have n3_ := Aside0.mk ((by rw [hg]; exact (below_size (by repeat (first | (with_reducible first | exact HB.out | apply below_alloc | apply pw_below_drewN | apply below_drew1) | exact HB.out))) : w.heap.size ≤ gb258)); clear HB; have HB := n0_; have BK258 := n1_; have GW258 := n2_; have GE258 := n3_; clear n0_ n1_ n2_ n3_; clear hb hbox hg; have hcz14_0 : w13.cell? ⟨gb258, 0, none⟩ = some (.int .i64 a0_0) := (blk_cell BK258.out 0).trans rfl; have hcz14_1 : w13.cell? ⟨gb258, 1, none⟩ = some (.int .i64 a0_1) := (blk_cell BK258.out 1).trans rfl; have hcz14_2 : w13.cell? ⟨gb258, 2, none⟩ = some (.int .i64 a0_2) := (blk_cell BK258.out 2).trans rfl; have hcz14_3 : w13.cell? ⟨gb258, 3, none⟩ = some (.int .i64 a0_3) := (blk_cell BK258.out 3).trans rfl; have hcz14_4 : w13.cell? ⟨gb258, 4, none⟩ = some (.int .i64 a0_4) := (blk_cell BK258.out 4).trans rfl; have hfz14_0 := blk_frozen BK258.out 0; have hfz14_1 := blk_frozen BK258.out 1; have hfz14_2 := blk_frozen BK258.out 2; have hfz14_3 := blk_frozen BK258.out 3; have hfz14_4 := blk_frozen BK258.out 4) | ((with_reducible refine gate_callee (f := 23) rfl ?_); refine goesL_ (some 5) rfl rfl Tryz.func23 (by kernel_rfl) rfl #[.int .i64 a0_0] rfl (by (try simp only [List.map_toArray, List.map_cons, List.map_nil]); first | done | rfl | (simp only [List.length_drop, List.length_take]; rfl)) ?_; (with_reducible refine (oculusref36_right.calls a0_0 true _ A2.out).mono ?_); rintro e w' ⟨rfl, ⟨nd, rfl⟩⟩; refine ⟨_, rfl, ?_⟩) | (go_at_call 23; (with_reducible refine (oculusref36_right.calls a0_1 true _ A4.out).mono ?_); rintro e w' ⟨rfl, ⟨nd, rfl⟩⟩) | (go_at_call 23; (with_reducible refine (oculusref36_right.calls a0_2 true _ A6.out).mono ?_); rintro e w' ⟨rfl, ⟨nd, rfl⟩⟩) | (go_at_call 23; (with_reducible refine (oculusref36_right.calls a0_3 false _ A8.out).mono ?_); rintro e w' ⟨rfl, ⟨nd, rfl⟩⟩))
     go_ret
     exact ⟨by first | rfl | (simp [errW_none, errW_some] <;> rfl) | (simp [*, errW_none, errW_some] <;> rfl), by repeat (first | (with_reducible first | exact HB.out | apply below_alloc | apply pw_below_drewN | apply below_drew1 | refine below_set ?_ GE258.out) | exact HB.out)⟩
   ·replace c7 := Bool.eq_false_iff.mpr c7
    subst c7
    have H1 : (some false) = some r := by rw [if_neg (show ¬ (false = true) by decide)] at H; exact H
    clear H
    have H := H1
    clear H1
    obtain rfl := Option.some.inj H
    go_enter Tryz.func9, Tryz.ntmps9
    go_wp2_with (first | ((with_reducible refine gate_dst (N := 1) rfl ?_); refine box_event ?hg (N := 1) ?hd (cs := #[.int .i64 a0_0, .int .i64 a0_1, .int .i64 a0_2, .int .i64 a0_3, .int .i64 a0_4]) (t := 23) ?hr ?_; (case hd => rfl); (case hg => rfl); (case hr => first | (go_simp; done) | (go_simp; rfl)); intro gb258 hg w15 hbox hb; have n0_ := Aside0.mk (below_step (by repeat (first | (with_reducible first | exact HB.out | apply below_alloc | apply pw_below_drewN | apply below_drew1) | exact HB.out)) hb); have n1_ := Aside0.mk (hbox); have n2_ := Aside0.mk ((by rw [hg]; exact (below_size (by repeat (first | (with_reducible first | exact HB.out | apply below_alloc | apply pw_below_drewN | apply below_drew1) | exact HB.out))) : w.heap.size ≤ gb258)); have n3_ := Aside0.mk ((by rw [hg]; exact (below_size (by repeat (first | (with_reducible first | exact HB.out | apply below_alloc | apply pw_below_drewN | apply below_drew1) | exact HB.out))) : w.heap.size ≤ gb258)); clear HB; have HB := n0_; have BK258 := n1_; have GW258 := n2_; have GE258 := n3_; clear n0_ n1_ n2_ n3_; clear hb hbox hg; have hcz16_0 : w15.cell? ⟨gb258, 0, none⟩ = some (.int .i64 a0_0) := (blk_cell BK258.out 0).trans rfl; have hcz16_1 : w15.cell? ⟨gb258, 1, none⟩ = some (.int .i64 a0_1) := (blk_cell BK258.out 1).trans rfl; have hcz16_2 : w15.cell? ⟨gb258, 2, none⟩ = some (.int .i64 a0_2) := (blk_cell BK258.out 2).trans rfl; have hcz16_3 : w15.cell? ⟨gb258, 3, none⟩ = some (.int .i64 a0_3) := (blk_cell BK258.out 3).trans rfl; have hcz16_4 : w15.cell? ⟨gb258, 4, none⟩ = some (.int .i64 a0_4) := (blk_cell BK258.out 4).trans rfl; have hfz16_0 := blk_frozen BK258.out 0; have hfz16_1 := blk_frozen BK258.out 1; have hfz16_2 := blk_frozen BK258.out 2; have hfz16_3 := blk_frozen BK258.out 3; have hfz16_4 := blk_frozen BK258.out 4) | ((with_reducible refine gate_callee (f := 23) rfl ?_); refine goesL_ (some 5) rfl rfl Tryz.func23 (by kernel_rfl) rfl #[.int .i64 a0_0] rfl (by (try simp only [List.map_toArray, List.map_cons, List.map_nil]); first | done | rfl | (simp only [List.length_drop, List.length_take]; rfl)) ?_; (with_reducible refine (oculusref36_right.calls a0_0 true _ A2.out).mono ?_); rintro e w' ⟨rfl, ⟨nd, rfl⟩⟩; refine ⟨_, rfl, ?_⟩) | (go_at_call 23; (with_reducible refine (oculusref36_right.calls a0_1 true _ A4.out).mono ?_); rintro e w' ⟨rfl, ⟨nd, rfl⟩⟩) | (go_at_call 23; (with_reducible refine (oculusref36_right.calls a0_2 false _ A6.out).mono ?_); rintro e w' ⟨rfl, ⟨nd, rfl⟩⟩))
    go_ret
    exact ⟨by first | rfl | (simp [errW_none, errW_some] <;> rfl) | (simp [*, errW_none, errW_some] <;> rfl), by repeat (first | (with_reducible first | exact HB.out | apply below_alloc | apply pw_below_drewN | apply below_drew1 | refine below_set ?_ GE258.out) | exact HB.out)⟩
  ·replace c5 := Bool.eq_false_iff.mpr c5
   subst c5
   have H1 : (some false) = some r := by rw [if_neg (show ¬ (false = true) by decide)] at H; exact H
   clear H
   have H := H1
   clear H1
   obtain rfl := Option.some.inj H
   go_enter Tryz.func9, Tryz.ntmps9
   go_wp2_with (first | ((with_reducible refine gate_dst (N := 1) rfl ?_); refine box_event ?hg (N := 1) ?hd (cs := #[.int .i64 a0_0, .int .i64 a0_1, .int .i64 a0_2, .int .i64 a0_3, .int .i64 a0_4]) (t := 23) ?hr ?_; (case hd => rfl); (case hg => rfl); (case hr => first | (go_simp; done) | (go_simp; rfl)); intro gb258 hg w17 hbox hb; have n0_ := Aside0.mk (below_step (by repeat (first | (with_reducible first | exact HB.out | apply below_alloc | apply pw_below_drewN | apply below_drew1) | exact HB.out)) hb); have n1_ := Aside0.mk (hbox); have n2_ := Aside0.mk ((by rw [hg]; exact (below_size (by repeat (first | (with_reducible first | exact HB.out | apply below_alloc | apply pw_below_drewN | apply below_drew1) | exact HB.out))) : w.heap.size ≤ gb258)); have n3_ := Aside0.mk ((by rw [hg]; exact (below_size (by repeat (first | (with_reducible first | exact HB.out | apply below_alloc | apply pw_below_drewN | apply below_drew1) | exact HB.out))) : w.heap.size ≤ gb258)); clear HB; have HB := n0_; have BK258 := n1_; have GW258 := n2_; have GE258 := n3_; clear n0_ n1_ n2_ n3_; clear hb hbox hg; have hcz18_0 : w17.cell? ⟨gb258, 0, none⟩ = some (.int .i64 a0_0) := (blk_cell BK258.out 0).trans rfl; have hcz18_1 : w17.cell? ⟨gb258, 1, none⟩ = some (.int .i64 a0_1) := (blk_cell BK258.out 1).trans rfl; have hcz18_2 : w17.cell? ⟨gb258, 2, none⟩ = some (.int .i64 a0_2) := (blk_cell BK258.out 2).trans rfl; have hcz18_3 : w17.cell? ⟨gb258, 3, none⟩ = some (.int .i64 a0_3) := (blk_cell BK258.out 3).trans rfl; have hcz18_4 : w17.cell? ⟨gb258, 4, none⟩ = some (.int .i64 a0_4) := (blk_cell BK258.out 4).trans rfl; have hfz18_0 := blk_frozen BK258.out 0; have hfz18_1 := blk_frozen BK258.out 1; have hfz18_2 := blk_frozen BK258.out 2; have hfz18_3 := blk_frozen BK258.out 3; have hfz18_4 := blk_frozen BK258.out 4) | ((with_reducible refine gate_callee (f := 23) rfl ?_); refine goesL_ (some 5) rfl rfl Tryz.func23 (by kernel_rfl) rfl #[.int .i64 a0_0] rfl (by (try simp only [List.map_toArray, List.map_cons, List.map_nil]); first | done | rfl | (simp only [List.length_drop, List.length_take]; rfl)) ?_; (with_reducible refine (oculusref36_right.calls a0_0 true _ A2.out).mono ?_); rintro e w' ⟨rfl, ⟨nd, rfl⟩⟩; refine ⟨_, rfl, ?_⟩) | (go_at_call 23; (with_reducible refine (oculusref36_right.calls a0_1 false _ A4.out).mono ?_); rintro e w' ⟨rfl, ⟨nd, rfl⟩⟩))
   go_ret
   exact ⟨by first | rfl | (simp [errW_none, errW_some] <;> rfl) | (simp [*, errW_none, errW_some] <;> rfl), by repeat (first | (with_reducible first | exact HB.out | apply below_alloc | apply pw_below_drewN | apply below_drew1 | refine below_set ?_ GE258.out) | exact HB.out)⟩
 ·replace c3 := Bool.eq_false_iff.mpr c3
  subst c3
  have H1 : (some false) = some r := by rw [if_neg (show ¬ (false = true) by decide)] at H; exact H
  clear H
  have H := H1
  clear H1
  obtain rfl := Option.some.inj H
  go_enter Tryz.func9, Tryz.ntmps9
  go_wp2_with (first | ((with_reducible refine gate_dst (N := 1) rfl ?_); refine box_event ?hg (N := 1) ?hd (cs := #[.int .i64 a0_0, .int .i64 a0_1, .int .i64 a0_2, .int .i64 a0_3, .int .i64 a0_4]) (t := 23) ?hr ?_; (case hd => rfl); (case hg => rfl); (case hr => first | (go_simp; done) | (go_simp; rfl)); intro gb258 hg w19 hbox hb; have n0_ := Aside0.mk (below_step (by repeat (first | (with_reducible first | exact HB.out | apply below_alloc | apply pw_below_drewN | apply below_drew1) | exact HB.out)) hb); have n1_ := Aside0.mk (hbox); have n2_ := Aside0.mk ((by rw [hg]; exact (below_size (by repeat (first | (with_reducible first | exact HB.out | apply below_alloc | apply pw_below_drewN | apply below_drew1) | exact HB.out))) : w.heap.size ≤ gb258)); have n3_ := Aside0.mk ((by rw [hg]; exact (below_size (by repeat (first | (with_reducible first | exact HB.out | apply below_alloc | apply pw_below_drewN | apply below_drew1) | exact HB.out))) : w.heap.size ≤ gb258)); clear HB; have HB := n0_; have BK258 := n1_; have GW258 := n2_; have GE258 := n3_; clear n0_ n1_ n2_ n3_; clear hb hbox hg; have hcz20_0 : w19.cell? ⟨gb258, 0, none⟩ = some (.int .i64 a0_0) := (blk_cell BK258.out 0).trans rfl; have hcz20_1 : w19.cell? ⟨gb258, 1, none⟩ = some (.int .i64 a0_1) := (blk_cell BK258.out 1).trans rfl; have hcz20_2 : w19.cell? ⟨gb258, 2, none⟩ = some (.int .i64 a0_2) := (blk_cell BK258.out 2).trans rfl; have hcz20_3 : w19.cell? ⟨gb258, 3, none⟩ = some (.int .i64 a0_3) := (blk_cell BK258.out 3).trans rfl; have hcz20_4 : w19.cell? ⟨gb258, 4, none⟩ = some (.int .i64 a0_4) := (blk_cell BK258.out 4).trans rfl; have hfz20_0 := blk_frozen BK258.out 0; have hfz20_1 := blk_frozen BK258.out 1; have hfz20_2 := blk_frozen BK258.out 2; have hfz20_3 := blk_frozen BK258.out 3; have hfz20_4 := blk_frozen BK258.out 4) | ((with_reducible refine gate_callee (f := 23) rfl ?_); refine goesL_ (some 5) rfl rfl Tryz.func23 (by kernel_rfl) rfl #[.int .i64 a0_0] rfl (by (try simp only [List.map_toArray, List.map_cons, List.map_nil]); first | done | rfl | (simp only [List.length_drop, List.length_take]; rfl)) ?_; (with_reducible refine (oculusref36_right.calls a0_0 false _ A2.out).mono ?_); rintro e w' ⟨rfl, ⟨nd, rfl⟩⟩; refine ⟨_, rfl, ?_⟩))
  go_ret
  exact ⟨by first | rfl | (simp [errW_none, errW_some] <;> rfl) | (simp [*, errW_none, errW_some] <;> rfl), by repeat (first | (with_reducible first | exact HB.out | apply below_alloc | apply pw_below_drewN | apply below_drew1 | refine below_set ?_ GE258.out) | exact HB.out)⟩
end Go.Proofs.YtaljjdodjimgdaaGreatDoor.P
namespace Go.Proofs.YtaljjdodjimgdaaGreatDoor.P
open Go.RowKit Go.Proofs.YtaljjdodjimgdaaGreatDoorW.PrintWords Go.Proofs.YtaljjdodjimgdaaGreatDoorW.PrintLast Go.Proofs.YtaljjdodjimgdaaGreatDoorW.PrintMore
attribute [local go_sem] max2_int min2_int max_two min_two max_three min_three max_four min_four
set_option linter.unusedVariables false
set_option linter.unusedSimpArgs false
def oculusref36_Text.f (k : Nat) (a0_0 : Int) (a0_1 : Int) (a0_2 : Int) (a0_3 : Int) (a0_4 : Int) : Option (ByteArray) := (oculusref36_Right.f a0_0 a0_1 a0_2 a0_3 a0_4).bind fun t276 => (if t276 = true then ((oculusref01_Digits.f k a0_0).bind fun t277 => (if 6 + t277.size ≤ 9223372036854775807 then (if ((⟨#[101, 118, 97, 108, 115, 32]⟩ : ByteArray) ++ t277).size + 7 ≤ 9223372036854775807 then ((oculusref01_Digits.f k a0_1).bind fun t278 => (if (((⟨#[101, 118, 97, 108, 115, 32]⟩ : ByteArray) ++ t277) ++ (⟨#[32, 114, 101, 97, 100, 115, 32]⟩ : ByteArray)).size + t278.size ≤ 9223372036854775807 then (if ((((⟨#[101, 118, 97, 108, 115, 32]⟩ : ByteArray) ++ t277) ++ (⟨#[32, 114, 101, 97, 100, 115, 32]⟩ : ByteArray)) ++ t278).size + 8 ≤ 9223372036854775807 then ((oculusref01_Digits.f k a0_2).bind fun t279 => (if (((((⟨#[101, 118, 97, 108, 115, 32]⟩ : ByteArray) ++ t277) ++ (⟨#[32, 114, 101, 97, 100, 115, 32]⟩ : ByteArray)) ++ t278) ++ (⟨#[32, 99, 104, 97, 115, 101, 115, 32]⟩ : ByteArray)).size + t279.size ≤ 9223372036854775807 then (if ((((((⟨#[101, 118, 97, 108, 115, 32]⟩ : ByteArray) ++ t277) ++ (⟨#[32, 114, 101, 97, 100, 115, 32]⟩ : ByteArray)) ++ t278) ++ (⟨#[32, 99, 104, 97, 115, 101, 115, 32]⟩ : ByteArray)) ++ t279).size + 7 ≤ 9223372036854775807 then ((oculusref01_Digits.f k a0_3).bind fun t280 => (if (((((((⟨#[101, 118, 97, 108, 115, 32]⟩ : ByteArray) ++ t277) ++ (⟨#[32, 114, 101, 97, 100, 115, 32]⟩ : ByteArray)) ++ t278) ++ (⟨#[32, 99, 104, 97, 115, 101, 115, 32]⟩ : ByteArray)) ++ t279) ++ (⟨#[32, 101, 100, 103, 101, 115, 32]⟩ : ByteArray)).size + t280.size ≤ 9223372036854775807 then (if ((((((((⟨#[101, 118, 97, 108, 115, 32]⟩ : ByteArray) ++ t277) ++ (⟨#[32, 114, 101, 97, 100, 115, 32]⟩ : ByteArray)) ++ t278) ++ (⟨#[32, 99, 104, 97, 115, 101, 115, 32]⟩ : ByteArray)) ++ t279) ++ (⟨#[32, 101, 100, 103, 101, 115, 32]⟩ : ByteArray)) ++ t280).size + 8 ≤ 9223372036854775807 then ((oculusref01_Digits.f k a0_4).bind fun t281 => (if (((((((((⟨#[101, 118, 97, 108, 115, 32]⟩ : ByteArray) ++ t277) ++ (⟨#[32, 114, 101, 97, 100, 115, 32]⟩ : ByteArray)) ++ t278) ++ (⟨#[32, 99, 104, 97, 115, 101, 115, 32]⟩ : ByteArray)) ++ t279) ++ (⟨#[32, 101, 100, 103, 101, 115, 32]⟩ : ByteArray)) ++ t280) ++ (⟨#[32, 118, 105, 115, 105, 116, 115, 32]⟩ : ByteArray)).size + t281.size ≤ 9223372036854775807 then (some ((((((((((⟨#[101, 118, 97, 108, 115, 32]⟩ : ByteArray) ++ t277) ++ (⟨#[32, 114, 101, 97, 100, 115, 32]⟩ : ByteArray)) ++ t278) ++ (⟨#[32, 99, 104, 97, 115, 101, 115, 32]⟩ : ByteArray)) ++ t279) ++ (⟨#[32, 101, 100, 103, 101, 115, 32]⟩ : ByteArray)) ++ t280) ++ (⟨#[32, 118, 105, 115, 105, 116, 115, 32]⟩ : ByteArray)) ++ t281)) else (none))) else (none)) else (none))) else (none)) else (none))) else (none)) else (none))) else (none)) else (none))) else (some (⟨#[]⟩ : ByteArray)))
theorem oculusref36_Text.mono : ∀ a0 a1 a2 a3 a4 k, LeO (oculusref36_Text.f k a0 a1 a2 a3 a4) (oculusref36_Text.f (k + 1) a0 a1 a2 a3 a4) := by
 intro a0 a1 a2 a3 a4 k
 unfold oculusref36_Text.f
 repeat' first
   | (with_reducible exact oculusref01_Digits.mono _ _)
   | (with_reducible exact LeO.refl _)
   | (with_reducible exact LeO.none _)
   | (with_reducible refine LeO.ite ?_ ?_)
   | (with_reducible refine LeO.bind ?_ (fun _ => ?_))
   | exact oculusref01_Digits.mono _ _
   | exact LeO.none _
   | refine LeO.ite ?_ ?_
   | refine LeO.bind ?_ (fun _ => ?_)
def oculusref36_Text.T3 : Bool × List (List Nat × List Nat) := (true, [([], []), ([0], [0]), ([1], [1]), ([2], [2]), ([3], [3]), ([], []), ([5], [5]), ([6, 2], [6]), ([4, 7], [4, 7]), ([8], [8]), ([], []), ([10], [10]), ([11, 7], [11]), ([9, 12], [9, 12]), ([13], [13]), ([], []), ([15], [15]), ([16, 12], [16]), ([14, 17], [14, 17]), ([18], [18]), ([], []), ([20], [20]), ([21, 17], [21]), ([19, 22], [19, 22]), ([23, 22, 0, 1, 2, 3, 4, 5, 6, 7, 8, 9, 10, 11, 12, 13, 14, 15, 16, 17, 18, 19, 20, 21, 22, 23], [23])])
def oculusref36_Text.B3 : List Nat := [0, 1, 3, 7, 15, 0, 32, 103, 255, 511, 0, 1024, 3303, 8191, 16383, 0, 32768, 105703, 262143, 524287, 0, 1048576, 3382503, 8388607, 16777215]
theorem oculusref36_Text.tab3 : rtab .any (opsOf Tryz.f27 3) = oculusref36_Text.T3 := by kernel_rfl
theorem oculusref36_Text.bits3 : waitsOk oculusref36_Text.T3.2 oculusref36_Text.B3 = true := by kernel_rfl
set_option maxHeartbeats 8000000 in
set_option maxRecDepth 100000 in
theorem oculusref36_Text.calls (k : Nat) (a0_0 : Int) (a0_1 : Int) (a0_2 : Int) (a0_3 : Int) (a0_4 : Int) (r : ByteArray) (w : World) (h : oculusref36_Text.f k a0_0 a0_1 a0_2 a0_3 a0_4 = some r) :
  Calls Tryz.prog 27 #[.agg #[.int .i64 a0_0, .int .i64 a0_1, .int .i64 a0_2, .int .i64 a0_3, .int .i64 a0_4]] w fun e w' => e = .returned (.string r) ∧ Below w.heap.size w w' := by
 have hu23 := Tryz.underlying23
 have HB := Aside0.mk (Below.refl w.heap.size w)
 have H : ((oculusref36_Right.f a0_0 a0_1 a0_2 a0_3 a0_4).bind fun t276 => (if t276 = true then ((oculusref01_Digits.f k a0_0).bind fun t277 => (if 6 + t277.size ≤ 9223372036854775807 then (if ((⟨#[101, 118, 97, 108, 115, 32]⟩ : ByteArray) ++ t277).size + 7 ≤ 9223372036854775807 then ((oculusref01_Digits.f k a0_1).bind fun t278 => (if (((⟨#[101, 118, 97, 108, 115, 32]⟩ : ByteArray) ++ t277) ++ (⟨#[32, 114, 101, 97, 100, 115, 32]⟩ : ByteArray)).size + t278.size ≤ 9223372036854775807 then (if ((((⟨#[101, 118, 97, 108, 115, 32]⟩ : ByteArray) ++ t277) ++ (⟨#[32, 114, 101, 97, 100, 115, 32]⟩ : ByteArray)) ++ t278).size + 8 ≤ 9223372036854775807 then ((oculusref01_Digits.f k a0_2).bind fun t279 => (if (((((⟨#[101, 118, 97, 108, 115, 32]⟩ : ByteArray) ++ t277) ++ (⟨#[32, 114, 101, 97, 100, 115, 32]⟩ : ByteArray)) ++ t278) ++ (⟨#[32, 99, 104, 97, 115, 101, 115, 32]⟩ : ByteArray)).size + t279.size ≤ 9223372036854775807 then (if ((((((⟨#[101, 118, 97, 108, 115, 32]⟩ : ByteArray) ++ t277) ++ (⟨#[32, 114, 101, 97, 100, 115, 32]⟩ : ByteArray)) ++ t278) ++ (⟨#[32, 99, 104, 97, 115, 101, 115, 32]⟩ : ByteArray)) ++ t279).size + 7 ≤ 9223372036854775807 then ((oculusref01_Digits.f k a0_3).bind fun t280 => (if (((((((⟨#[101, 118, 97, 108, 115, 32]⟩ : ByteArray) ++ t277) ++ (⟨#[32, 114, 101, 97, 100, 115, 32]⟩ : ByteArray)) ++ t278) ++ (⟨#[32, 99, 104, 97, 115, 101, 115, 32]⟩ : ByteArray)) ++ t279) ++ (⟨#[32, 101, 100, 103, 101, 115, 32]⟩ : ByteArray)).size + t280.size ≤ 9223372036854775807 then (if ((((((((⟨#[101, 118, 97, 108, 115, 32]⟩ : ByteArray) ++ t277) ++ (⟨#[32, 114, 101, 97, 100, 115, 32]⟩ : ByteArray)) ++ t278) ++ (⟨#[32, 99, 104, 97, 115, 101, 115, 32]⟩ : ByteArray)) ++ t279) ++ (⟨#[32, 101, 100, 103, 101, 115, 32]⟩ : ByteArray)) ++ t280).size + 8 ≤ 9223372036854775807 then ((oculusref01_Digits.f k a0_4).bind fun t281 => (if (((((((((⟨#[101, 118, 97, 108, 115, 32]⟩ : ByteArray) ++ t277) ++ (⟨#[32, 114, 101, 97, 100, 115, 32]⟩ : ByteArray)) ++ t278) ++ (⟨#[32, 99, 104, 97, 115, 101, 115, 32]⟩ : ByteArray)) ++ t279) ++ (⟨#[32, 101, 100, 103, 101, 115, 32]⟩ : ByteArray)) ++ t280) ++ (⟨#[32, 118, 105, 115, 105, 116, 115, 32]⟩ : ByteArray)).size + t281.size ≤ 9223372036854775807 then (some ((((((((((⟨#[101, 118, 97, 108, 115, 32]⟩ : ByteArray) ++ t277) ++ (⟨#[32, 114, 101, 97, 100, 115, 32]⟩ : ByteArray)) ++ t278) ++ (⟨#[32, 99, 104, 97, 115, 101, 115, 32]⟩ : ByteArray)) ++ t279) ++ (⟨#[32, 101, 100, 103, 101, 115, 32]⟩ : ByteArray)) ++ t280) ++ (⟨#[32, 118, 105, 115, 105, 116, 115, 32]⟩ : ByteArray)) ++ t281)) else (none))) else (none)) else (none))) else (none)) else (none))) else (none)) else (none))) else (none)) else (none))) else (some (⟨#[]⟩ : ByteArray)))) = some r := h
 clear h
 replace H := Option.bind_eq_some_iff.mp H
 obtain ⟨t276, A20, H⟩ := H
 replace H : (if t276 = true then ((oculusref01_Digits.f k a0_0).bind fun t277 => (if 6 + t277.size ≤ 9223372036854775807 then (if ((⟨#[101, 118, 97, 108, 115, 32]⟩ : ByteArray) ++ t277).size + 7 ≤ 9223372036854775807 then ((oculusref01_Digits.f k a0_1).bind fun t278 => (if (((⟨#[101, 118, 97, 108, 115, 32]⟩ : ByteArray) ++ t277) ++ (⟨#[32, 114, 101, 97, 100, 115, 32]⟩ : ByteArray)).size + t278.size ≤ 9223372036854775807 then (if ((((⟨#[101, 118, 97, 108, 115, 32]⟩ : ByteArray) ++ t277) ++ (⟨#[32, 114, 101, 97, 100, 115, 32]⟩ : ByteArray)) ++ t278).size + 8 ≤ 9223372036854775807 then ((oculusref01_Digits.f k a0_2).bind fun t279 => (if (((((⟨#[101, 118, 97, 108, 115, 32]⟩ : ByteArray) ++ t277) ++ (⟨#[32, 114, 101, 97, 100, 115, 32]⟩ : ByteArray)) ++ t278) ++ (⟨#[32, 99, 104, 97, 115, 101, 115, 32]⟩ : ByteArray)).size + t279.size ≤ 9223372036854775807 then (if ((((((⟨#[101, 118, 97, 108, 115, 32]⟩ : ByteArray) ++ t277) ++ (⟨#[32, 114, 101, 97, 100, 115, 32]⟩ : ByteArray)) ++ t278) ++ (⟨#[32, 99, 104, 97, 115, 101, 115, 32]⟩ : ByteArray)) ++ t279).size + 7 ≤ 9223372036854775807 then ((oculusref01_Digits.f k a0_3).bind fun t280 => (if (((((((⟨#[101, 118, 97, 108, 115, 32]⟩ : ByteArray) ++ t277) ++ (⟨#[32, 114, 101, 97, 100, 115, 32]⟩ : ByteArray)) ++ t278) ++ (⟨#[32, 99, 104, 97, 115, 101, 115, 32]⟩ : ByteArray)) ++ t279) ++ (⟨#[32, 101, 100, 103, 101, 115, 32]⟩ : ByteArray)).size + t280.size ≤ 9223372036854775807 then (if ((((((((⟨#[101, 118, 97, 108, 115, 32]⟩ : ByteArray) ++ t277) ++ (⟨#[32, 114, 101, 97, 100, 115, 32]⟩ : ByteArray)) ++ t278) ++ (⟨#[32, 99, 104, 97, 115, 101, 115, 32]⟩ : ByteArray)) ++ t279) ++ (⟨#[32, 101, 100, 103, 101, 115, 32]⟩ : ByteArray)) ++ t280).size + 8 ≤ 9223372036854775807 then ((oculusref01_Digits.f k a0_4).bind fun t281 => (if (((((((((⟨#[101, 118, 97, 108, 115, 32]⟩ : ByteArray) ++ t277) ++ (⟨#[32, 114, 101, 97, 100, 115, 32]⟩ : ByteArray)) ++ t278) ++ (⟨#[32, 99, 104, 97, 115, 101, 115, 32]⟩ : ByteArray)) ++ t279) ++ (⟨#[32, 101, 100, 103, 101, 115, 32]⟩ : ByteArray)) ++ t280) ++ (⟨#[32, 118, 105, 115, 105, 116, 115, 32]⟩ : ByteArray)).size + t281.size ≤ 9223372036854775807 then (some ((((((((((⟨#[101, 118, 97, 108, 115, 32]⟩ : ByteArray) ++ t277) ++ (⟨#[32, 114, 101, 97, 100, 115, 32]⟩ : ByteArray)) ++ t278) ++ (⟨#[32, 99, 104, 97, 115, 101, 115, 32]⟩ : ByteArray)) ++ t279) ++ (⟨#[32, 101, 100, 103, 101, 115, 32]⟩ : ByteArray)) ++ t280) ++ (⟨#[32, 118, 105, 115, 105, 116, 115, 32]⟩ : ByteArray)) ++ t281)) else (none))) else (none)) else (none))) else (none)) else (none))) else (none)) else (none))) else (none)) else (none))) else (some (⟨#[]⟩ : ByteArray))) = some r := H
 have A2 := Aside0.mk A20
 clear A20
 by_cases c3 : t276 = true
 ·subst c3
  have H1 : ((oculusref01_Digits.f k a0_0).bind fun t277 => (if 6 + t277.size ≤ 9223372036854775807 then (if ((⟨#[101, 118, 97, 108, 115, 32]⟩ : ByteArray) ++ t277).size + 7 ≤ 9223372036854775807 then ((oculusref01_Digits.f k a0_1).bind fun t278 => (if (((⟨#[101, 118, 97, 108, 115, 32]⟩ : ByteArray) ++ t277) ++ (⟨#[32, 114, 101, 97, 100, 115, 32]⟩ : ByteArray)).size + t278.size ≤ 9223372036854775807 then (if ((((⟨#[101, 118, 97, 108, 115, 32]⟩ : ByteArray) ++ t277) ++ (⟨#[32, 114, 101, 97, 100, 115, 32]⟩ : ByteArray)) ++ t278).size + 8 ≤ 9223372036854775807 then ((oculusref01_Digits.f k a0_2).bind fun t279 => (if (((((⟨#[101, 118, 97, 108, 115, 32]⟩ : ByteArray) ++ t277) ++ (⟨#[32, 114, 101, 97, 100, 115, 32]⟩ : ByteArray)) ++ t278) ++ (⟨#[32, 99, 104, 97, 115, 101, 115, 32]⟩ : ByteArray)).size + t279.size ≤ 9223372036854775807 then (if ((((((⟨#[101, 118, 97, 108, 115, 32]⟩ : ByteArray) ++ t277) ++ (⟨#[32, 114, 101, 97, 100, 115, 32]⟩ : ByteArray)) ++ t278) ++ (⟨#[32, 99, 104, 97, 115, 101, 115, 32]⟩ : ByteArray)) ++ t279).size + 7 ≤ 9223372036854775807 then ((oculusref01_Digits.f k a0_3).bind fun t280 => (if (((((((⟨#[101, 118, 97, 108, 115, 32]⟩ : ByteArray) ++ t277) ++ (⟨#[32, 114, 101, 97, 100, 115, 32]⟩ : ByteArray)) ++ t278) ++ (⟨#[32, 99, 104, 97, 115, 101, 115, 32]⟩ : ByteArray)) ++ t279) ++ (⟨#[32, 101, 100, 103, 101, 115, 32]⟩ : ByteArray)).size + t280.size ≤ 9223372036854775807 then (if ((((((((⟨#[101, 118, 97, 108, 115, 32]⟩ : ByteArray) ++ t277) ++ (⟨#[32, 114, 101, 97, 100, 115, 32]⟩ : ByteArray)) ++ t278) ++ (⟨#[32, 99, 104, 97, 115, 101, 115, 32]⟩ : ByteArray)) ++ t279) ++ (⟨#[32, 101, 100, 103, 101, 115, 32]⟩ : ByteArray)) ++ t280).size + 8 ≤ 9223372036854775807 then ((oculusref01_Digits.f k a0_4).bind fun t281 => (if (((((((((⟨#[101, 118, 97, 108, 115, 32]⟩ : ByteArray) ++ t277) ++ (⟨#[32, 114, 101, 97, 100, 115, 32]⟩ : ByteArray)) ++ t278) ++ (⟨#[32, 99, 104, 97, 115, 101, 115, 32]⟩ : ByteArray)) ++ t279) ++ (⟨#[32, 101, 100, 103, 101, 115, 32]⟩ : ByteArray)) ++ t280) ++ (⟨#[32, 118, 105, 115, 105, 116, 115, 32]⟩ : ByteArray)).size + t281.size ≤ 9223372036854775807 then (some ((((((((((⟨#[101, 118, 97, 108, 115, 32]⟩ : ByteArray) ++ t277) ++ (⟨#[32, 114, 101, 97, 100, 115, 32]⟩ : ByteArray)) ++ t278) ++ (⟨#[32, 99, 104, 97, 115, 101, 115, 32]⟩ : ByteArray)) ++ t279) ++ (⟨#[32, 101, 100, 103, 101, 115, 32]⟩ : ByteArray)) ++ t280) ++ (⟨#[32, 118, 105, 115, 105, 116, 115, 32]⟩ : ByteArray)) ++ t281)) else (none))) else (none)) else (none))) else (none)) else (none))) else (none)) else (none))) else (none)) else (none))) = some r := by rw [if_pos rfl] at H; exact H
  clear H
  have H := H1
  clear H1
  replace H := Option.bind_eq_some_iff.mp H
  obtain ⟨t277, A40, H⟩ := H
  replace H : (if 6 + t277.size ≤ 9223372036854775807 then (if ((⟨#[101, 118, 97, 108, 115, 32]⟩ : ByteArray) ++ t277).size + 7 ≤ 9223372036854775807 then ((oculusref01_Digits.f k a0_1).bind fun t278 => (if (((⟨#[101, 118, 97, 108, 115, 32]⟩ : ByteArray) ++ t277) ++ (⟨#[32, 114, 101, 97, 100, 115, 32]⟩ : ByteArray)).size + t278.size ≤ 9223372036854775807 then (if ((((⟨#[101, 118, 97, 108, 115, 32]⟩ : ByteArray) ++ t277) ++ (⟨#[32, 114, 101, 97, 100, 115, 32]⟩ : ByteArray)) ++ t278).size + 8 ≤ 9223372036854775807 then ((oculusref01_Digits.f k a0_2).bind fun t279 => (if (((((⟨#[101, 118, 97, 108, 115, 32]⟩ : ByteArray) ++ t277) ++ (⟨#[32, 114, 101, 97, 100, 115, 32]⟩ : ByteArray)) ++ t278) ++ (⟨#[32, 99, 104, 97, 115, 101, 115, 32]⟩ : ByteArray)).size + t279.size ≤ 9223372036854775807 then (if ((((((⟨#[101, 118, 97, 108, 115, 32]⟩ : ByteArray) ++ t277) ++ (⟨#[32, 114, 101, 97, 100, 115, 32]⟩ : ByteArray)) ++ t278) ++ (⟨#[32, 99, 104, 97, 115, 101, 115, 32]⟩ : ByteArray)) ++ t279).size + 7 ≤ 9223372036854775807 then ((oculusref01_Digits.f k a0_3).bind fun t280 => (if (((((((⟨#[101, 118, 97, 108, 115, 32]⟩ : ByteArray) ++ t277) ++ (⟨#[32, 114, 101, 97, 100, 115, 32]⟩ : ByteArray)) ++ t278) ++ (⟨#[32, 99, 104, 97, 115, 101, 115, 32]⟩ : ByteArray)) ++ t279) ++ (⟨#[32, 101, 100, 103, 101, 115, 32]⟩ : ByteArray)).size + t280.size ≤ 9223372036854775807 then (if ((((((((⟨#[101, 118, 97, 108, 115, 32]⟩ : ByteArray) ++ t277) ++ (⟨#[32, 114, 101, 97, 100, 115, 32]⟩ : ByteArray)) ++ t278) ++ (⟨#[32, 99, 104, 97, 115, 101, 115, 32]⟩ : ByteArray)) ++ t279) ++ (⟨#[32, 101, 100, 103, 101, 115, 32]⟩ : ByteArray)) ++ t280).size + 8 ≤ 9223372036854775807 then ((oculusref01_Digits.f k a0_4).bind fun t281 => (if (((((((((⟨#[101, 118, 97, 108, 115, 32]⟩ : ByteArray) ++ t277) ++ (⟨#[32, 114, 101, 97, 100, 115, 32]⟩ : ByteArray)) ++ t278) ++ (⟨#[32, 99, 104, 97, 115, 101, 115, 32]⟩ : ByteArray)) ++ t279) ++ (⟨#[32, 101, 100, 103, 101, 115, 32]⟩ : ByteArray)) ++ t280) ++ (⟨#[32, 118, 105, 115, 105, 116, 115, 32]⟩ : ByteArray)).size + t281.size ≤ 9223372036854775807 then (some ((((((((((⟨#[101, 118, 97, 108, 115, 32]⟩ : ByteArray) ++ t277) ++ (⟨#[32, 114, 101, 97, 100, 115, 32]⟩ : ByteArray)) ++ t278) ++ (⟨#[32, 99, 104, 97, 115, 101, 115, 32]⟩ : ByteArray)) ++ t279) ++ (⟨#[32, 101, 100, 103, 101, 115, 32]⟩ : ByteArray)) ++ t280) ++ (⟨#[32, 118, 105, 115, 105, 116, 115, 32]⟩ : ByteArray)) ++ t281)) else (none))) else (none)) else (none))) else (none)) else (none))) else (none)) else (none))) else (none)) else (none)) = some r := H
  have A4 := Aside0.mk A40
  clear A40
  by_cases c5 : 6 + t277.size ≤ 9223372036854775807
  ·rw [if_pos c5] at H
   have c5b0 := eq_true c5
   have c5b1 : decide (6 + t277.size ≤ 9223372036854775807) = true := decide_eq_true c5
   try have c5b2 : (9223372036854775807 < 6 + t277.size) = False := eq_false (Nat.not_lt.2 c5)
   by_cases c6 : ((⟨#[101, 118, 97, 108, 115, 32]⟩ : ByteArray) ++ t277).size + 7 ≤ 9223372036854775807
   ·rw [if_pos c6] at H
    have c6b0 := eq_true c6
    have c6b1 : decide (((⟨#[101, 118, 97, 108, 115, 32]⟩ : ByteArray) ++ t277).size + 7 ≤ 9223372036854775807) = true := decide_eq_true c6
    try have c6b2 : (9223372036854775807 < ((⟨#[101, 118, 97, 108, 115, 32]⟩ : ByteArray) ++ t277).size + 7) = False := eq_false (Nat.not_lt.2 c6)
    try (have c6b3 := c6b2; simp only [ByteArray.size_append, bsz_mk, List.size_toArray, List.length_cons, List.length_nil, Nat.zero_add, Nat.reduceAdd] at c6b3)
    replace H := Option.bind_eq_some_iff.mp H
    obtain ⟨t278, A70, H⟩ := H
    replace H : (if (((⟨#[101, 118, 97, 108, 115, 32]⟩ : ByteArray) ++ t277) ++ (⟨#[32, 114, 101, 97, 100, 115, 32]⟩ : ByteArray)).size + t278.size ≤ 9223372036854775807 then (if ((((⟨#[101, 118, 97, 108, 115, 32]⟩ : ByteArray) ++ t277) ++ (⟨#[32, 114, 101, 97, 100, 115, 32]⟩ : ByteArray)) ++ t278).size + 8 ≤ 9223372036854775807 then ((oculusref01_Digits.f k a0_2).bind fun t279 => (if (((((⟨#[101, 118, 97, 108, 115, 32]⟩ : ByteArray) ++ t277) ++ (⟨#[32, 114, 101, 97, 100, 115, 32]⟩ : ByteArray)) ++ t278) ++ (⟨#[32, 99, 104, 97, 115, 101, 115, 32]⟩ : ByteArray)).size + t279.size ≤ 9223372036854775807 then (if ((((((⟨#[101, 118, 97, 108, 115, 32]⟩ : ByteArray) ++ t277) ++ (⟨#[32, 114, 101, 97, 100, 115, 32]⟩ : ByteArray)) ++ t278) ++ (⟨#[32, 99, 104, 97, 115, 101, 115, 32]⟩ : ByteArray)) ++ t279).size + 7 ≤ 9223372036854775807 then ((oculusref01_Digits.f k a0_3).bind fun t280 => (if (((((((⟨#[101, 118, 97, 108, 115, 32]⟩ : ByteArray) ++ t277) ++ (⟨#[32, 114, 101, 97, 100, 115, 32]⟩ : ByteArray)) ++ t278) ++ (⟨#[32, 99, 104, 97, 115, 101, 115, 32]⟩ : ByteArray)) ++ t279) ++ (⟨#[32, 101, 100, 103, 101, 115, 32]⟩ : ByteArray)).size + t280.size ≤ 9223372036854775807 then (if ((((((((⟨#[101, 118, 97, 108, 115, 32]⟩ : ByteArray) ++ t277) ++ (⟨#[32, 114, 101, 97, 100, 115, 32]⟩ : ByteArray)) ++ t278) ++ (⟨#[32, 99, 104, 97, 115, 101, 115, 32]⟩ : ByteArray)) ++ t279) ++ (⟨#[32, 101, 100, 103, 101, 115, 32]⟩ : ByteArray)) ++ t280).size + 8 ≤ 9223372036854775807 then ((oculusref01_Digits.f k a0_4).bind fun t281 => (if (((((((((⟨#[101, 118, 97, 108, 115, 32]⟩ : ByteArray) ++ t277) ++ (⟨#[32, 114, 101, 97, 100, 115, 32]⟩ : ByteArray)) ++ t278) ++ (⟨#[32, 99, 104, 97, 115, 101, 115, 32]⟩ : ByteArray)) ++ t279) ++ (⟨#[32, 101, 100, 103, 101, 115, 32]⟩ : ByteArray)) ++ t280) ++ (⟨#[32, 118, 105, 115, 105, 116, 115, 32]⟩ : ByteArray)).size + t281.size ≤ 9223372036854775807 then (some ((((((((((⟨#[101, 118, 97, 108, 115, 32]⟩ : ByteArray) ++ t277) ++ (⟨#[32, 114, 101, 97, 100, 115, 32]⟩ : ByteArray)) ++ t278) ++ (⟨#[32, 99, 104, 97, 115, 101, 115, 32]⟩ : ByteArray)) ++ t279) ++ (⟨#[32, 101, 100, 103, 101, 115, 32]⟩ : ByteArray)) ++ t280) ++ (⟨#[32, 118, 105, 115, 105, 116, 115, 32]⟩ : ByteArray)) ++ t281)) else (none))) else (none)) else (none))) else (none)) else (none))) else (none)) else (none)) = some r := H
    have A7 := Aside0.mk A70
    clear A70
    by_cases c8 : (((⟨#[101, 118, 97, 108, 115, 32]⟩ : ByteArray) ++ t277) ++ (⟨#[32, 114, 101, 97, 100, 115, 32]⟩ : ByteArray)).size + t278.size ≤ 9223372036854775807
    ·rw [if_pos c8] at H
     have c8b0 := eq_true c8
     have c8b1 : decide ((((⟨#[101, 118, 97, 108, 115, 32]⟩ : ByteArray) ++ t277) ++ (⟨#[32, 114, 101, 97, 100, 115, 32]⟩ : ByteArray)).size + t278.size ≤ 9223372036854775807) = true := decide_eq_true c8
     try have c8b2 : (9223372036854775807 < (((⟨#[101, 118, 97, 108, 115, 32]⟩ : ByteArray) ++ t277) ++ (⟨#[32, 114, 101, 97, 100, 115, 32]⟩ : ByteArray)).size + t278.size) = False := eq_false (Nat.not_lt.2 c8)
     try (have c8b3 := c8b2; simp only [ByteArray.size_append, bsz_mk, List.size_toArray, List.length_cons, List.length_nil, Nat.zero_add, Nat.reduceAdd] at c8b3)
     by_cases c9 : ((((⟨#[101, 118, 97, 108, 115, 32]⟩ : ByteArray) ++ t277) ++ (⟨#[32, 114, 101, 97, 100, 115, 32]⟩ : ByteArray)) ++ t278).size + 8 ≤ 9223372036854775807
     ·rw [if_pos c9] at H
      have c9b0 := eq_true c9
      have c9b1 : decide (((((⟨#[101, 118, 97, 108, 115, 32]⟩ : ByteArray) ++ t277) ++ (⟨#[32, 114, 101, 97, 100, 115, 32]⟩ : ByteArray)) ++ t278).size + 8 ≤ 9223372036854775807) = true := decide_eq_true c9
      try have c9b2 : (9223372036854775807 < ((((⟨#[101, 118, 97, 108, 115, 32]⟩ : ByteArray) ++ t277) ++ (⟨#[32, 114, 101, 97, 100, 115, 32]⟩ : ByteArray)) ++ t278).size + 8) = False := eq_false (Nat.not_lt.2 c9)
      try (have c9b3 := c9b2; simp only [ByteArray.size_append, bsz_mk, List.size_toArray, List.length_cons, List.length_nil, Nat.zero_add, Nat.reduceAdd] at c9b3)
      replace H := Option.bind_eq_some_iff.mp H
      obtain ⟨t279, A100, H⟩ := H
      replace H : (if (((((⟨#[101, 118, 97, 108, 115, 32]⟩ : ByteArray) ++ t277) ++ (⟨#[32, 114, 101, 97, 100, 115, 32]⟩ : ByteArray)) ++ t278) ++ (⟨#[32, 99, 104, 97, 115, 101, 115, 32]⟩ : ByteArray)).size + t279.size ≤ 9223372036854775807 then (if ((((((⟨#[101, 118, 97, 108, 115, 32]⟩ : ByteArray) ++ t277) ++ (⟨#[32, 114, 101, 97, 100, 115, 32]⟩ : ByteArray)) ++ t278) ++ (⟨#[32, 99, 104, 97, 115, 101, 115, 32]⟩ : ByteArray)) ++ t279).size + 7 ≤ 9223372036854775807 then ((oculusref01_Digits.f k a0_3).bind fun t280 => (if (((((((⟨#[101, 118, 97, 108, 115, 32]⟩ : ByteArray) ++ t277) ++ (⟨#[32, 114, 101, 97, 100, 115, 32]⟩ : ByteArray)) ++ t278) ++ (⟨#[32, 99, 104, 97, 115, 101, 115, 32]⟩ : ByteArray)) ++ t279) ++ (⟨#[32, 101, 100, 103, 101, 115, 32]⟩ : ByteArray)).size + t280.size ≤ 9223372036854775807 then (if ((((((((⟨#[101, 118, 97, 108, 115, 32]⟩ : ByteArray) ++ t277) ++ (⟨#[32, 114, 101, 97, 100, 115, 32]⟩ : ByteArray)) ++ t278) ++ (⟨#[32, 99, 104, 97, 115, 101, 115, 32]⟩ : ByteArray)) ++ t279) ++ (⟨#[32, 101, 100, 103, 101, 115, 32]⟩ : ByteArray)) ++ t280).size + 8 ≤ 9223372036854775807 then ((oculusref01_Digits.f k a0_4).bind fun t281 => (if (((((((((⟨#[101, 118, 97, 108, 115, 32]⟩ : ByteArray) ++ t277) ++ (⟨#[32, 114, 101, 97, 100, 115, 32]⟩ : ByteArray)) ++ t278) ++ (⟨#[32, 99, 104, 97, 115, 101, 115, 32]⟩ : ByteArray)) ++ t279) ++ (⟨#[32, 101, 100, 103, 101, 115, 32]⟩ : ByteArray)) ++ t280) ++ (⟨#[32, 118, 105, 115, 105, 116, 115, 32]⟩ : ByteArray)).size + t281.size ≤ 9223372036854775807 then (some ((((((((((⟨#[101, 118, 97, 108, 115, 32]⟩ : ByteArray) ++ t277) ++ (⟨#[32, 114, 101, 97, 100, 115, 32]⟩ : ByteArray)) ++ t278) ++ (⟨#[32, 99, 104, 97, 115, 101, 115, 32]⟩ : ByteArray)) ++ t279) ++ (⟨#[32, 101, 100, 103, 101, 115, 32]⟩ : ByteArray)) ++ t280) ++ (⟨#[32, 118, 105, 115, 105, 116, 115, 32]⟩ : ByteArray)) ++ t281)) else (none))) else (none)) else (none))) else (none)) else (none)) = some r := H
      have A10 := Aside0.mk A100
      clear A100
      by_cases c11 : (((((⟨#[101, 118, 97, 108, 115, 32]⟩ : ByteArray) ++ t277) ++ (⟨#[32, 114, 101, 97, 100, 115, 32]⟩ : ByteArray)) ++ t278) ++ (⟨#[32, 99, 104, 97, 115, 101, 115, 32]⟩ : ByteArray)).size + t279.size ≤ 9223372036854775807
      ·rw [if_pos c11] at H
       have c11b0 := eq_true c11
       have c11b1 : decide ((((((⟨#[101, 118, 97, 108, 115, 32]⟩ : ByteArray) ++ t277) ++ (⟨#[32, 114, 101, 97, 100, 115, 32]⟩ : ByteArray)) ++ t278) ++ (⟨#[32, 99, 104, 97, 115, 101, 115, 32]⟩ : ByteArray)).size + t279.size ≤ 9223372036854775807) = true := decide_eq_true c11
       try have c11b2 : (9223372036854775807 < (((((⟨#[101, 118, 97, 108, 115, 32]⟩ : ByteArray) ++ t277) ++ (⟨#[32, 114, 101, 97, 100, 115, 32]⟩ : ByteArray)) ++ t278) ++ (⟨#[32, 99, 104, 97, 115, 101, 115, 32]⟩ : ByteArray)).size + t279.size) = False := eq_false (Nat.not_lt.2 c11)
       try (have c11b3 := c11b2; simp only [ByteArray.size_append, bsz_mk, List.size_toArray, List.length_cons, List.length_nil, Nat.zero_add, Nat.reduceAdd] at c11b3)
       by_cases c12 : ((((((⟨#[101, 118, 97, 108, 115, 32]⟩ : ByteArray) ++ t277) ++ (⟨#[32, 114, 101, 97, 100, 115, 32]⟩ : ByteArray)) ++ t278) ++ (⟨#[32, 99, 104, 97, 115, 101, 115, 32]⟩ : ByteArray)) ++ t279).size + 7 ≤ 9223372036854775807
       ·rw [if_pos c12] at H
        have c12b0 := eq_true c12
        have c12b1 : decide (((((((⟨#[101, 118, 97, 108, 115, 32]⟩ : ByteArray) ++ t277) ++ (⟨#[32, 114, 101, 97, 100, 115, 32]⟩ : ByteArray)) ++ t278) ++ (⟨#[32, 99, 104, 97, 115, 101, 115, 32]⟩ : ByteArray)) ++ t279).size + 7 ≤ 9223372036854775807) = true := decide_eq_true c12
        try have c12b2 : (9223372036854775807 < ((((((⟨#[101, 118, 97, 108, 115, 32]⟩ : ByteArray) ++ t277) ++ (⟨#[32, 114, 101, 97, 100, 115, 32]⟩ : ByteArray)) ++ t278) ++ (⟨#[32, 99, 104, 97, 115, 101, 115, 32]⟩ : ByteArray)) ++ t279).size + 7) = False := eq_false (Nat.not_lt.2 c12)
        try (have c12b3 := c12b2; simp only [ByteArray.size_append, bsz_mk, List.size_toArray, List.length_cons, List.length_nil, Nat.zero_add, Nat.reduceAdd] at c12b3)
        replace H := Option.bind_eq_some_iff.mp H
        obtain ⟨t280, A130, H⟩ := H
        replace H : (if (((((((⟨#[101, 118, 97, 108, 115, 32]⟩ : ByteArray) ++ t277) ++ (⟨#[32, 114, 101, 97, 100, 115, 32]⟩ : ByteArray)) ++ t278) ++ (⟨#[32, 99, 104, 97, 115, 101, 115, 32]⟩ : ByteArray)) ++ t279) ++ (⟨#[32, 101, 100, 103, 101, 115, 32]⟩ : ByteArray)).size + t280.size ≤ 9223372036854775807 then (if ((((((((⟨#[101, 118, 97, 108, 115, 32]⟩ : ByteArray) ++ t277) ++ (⟨#[32, 114, 101, 97, 100, 115, 32]⟩ : ByteArray)) ++ t278) ++ (⟨#[32, 99, 104, 97, 115, 101, 115, 32]⟩ : ByteArray)) ++ t279) ++ (⟨#[32, 101, 100, 103, 101, 115, 32]⟩ : ByteArray)) ++ t280).size + 8 ≤ 9223372036854775807 then ((oculusref01_Digits.f k a0_4).bind fun t281 => (if (((((((((⟨#[101, 118, 97, 108, 115, 32]⟩ : ByteArray) ++ t277) ++ (⟨#[32, 114, 101, 97, 100, 115, 32]⟩ : ByteArray)) ++ t278) ++ (⟨#[32, 99, 104, 97, 115, 101, 115, 32]⟩ : ByteArray)) ++ t279) ++ (⟨#[32, 101, 100, 103, 101, 115, 32]⟩ : ByteArray)) ++ t280) ++ (⟨#[32, 118, 105, 115, 105, 116, 115, 32]⟩ : ByteArray)).size + t281.size ≤ 9223372036854775807 then (some ((((((((((⟨#[101, 118, 97, 108, 115, 32]⟩ : ByteArray) ++ t277) ++ (⟨#[32, 114, 101, 97, 100, 115, 32]⟩ : ByteArray)) ++ t278) ++ (⟨#[32, 99, 104, 97, 115, 101, 115, 32]⟩ : ByteArray)) ++ t279) ++ (⟨#[32, 101, 100, 103, 101, 115, 32]⟩ : ByteArray)) ++ t280) ++ (⟨#[32, 118, 105, 115, 105, 116, 115, 32]⟩ : ByteArray)) ++ t281)) else (none))) else (none)) else (none)) = some r := H
        have A13 := Aside0.mk A130
        clear A130
        by_cases c14 : (((((((⟨#[101, 118, 97, 108, 115, 32]⟩ : ByteArray) ++ t277) ++ (⟨#[32, 114, 101, 97, 100, 115, 32]⟩ : ByteArray)) ++ t278) ++ (⟨#[32, 99, 104, 97, 115, 101, 115, 32]⟩ : ByteArray)) ++ t279) ++ (⟨#[32, 101, 100, 103, 101, 115, 32]⟩ : ByteArray)).size + t280.size ≤ 9223372036854775807
        ·rw [if_pos c14] at H
         have c14b0 := eq_true c14
         have c14b1 : decide ((((((((⟨#[101, 118, 97, 108, 115, 32]⟩ : ByteArray) ++ t277) ++ (⟨#[32, 114, 101, 97, 100, 115, 32]⟩ : ByteArray)) ++ t278) ++ (⟨#[32, 99, 104, 97, 115, 101, 115, 32]⟩ : ByteArray)) ++ t279) ++ (⟨#[32, 101, 100, 103, 101, 115, 32]⟩ : ByteArray)).size + t280.size ≤ 9223372036854775807) = true := decide_eq_true c14
         try have c14b2 : (9223372036854775807 < (((((((⟨#[101, 118, 97, 108, 115, 32]⟩ : ByteArray) ++ t277) ++ (⟨#[32, 114, 101, 97, 100, 115, 32]⟩ : ByteArray)) ++ t278) ++ (⟨#[32, 99, 104, 97, 115, 101, 115, 32]⟩ : ByteArray)) ++ t279) ++ (⟨#[32, 101, 100, 103, 101, 115, 32]⟩ : ByteArray)).size + t280.size) = False := eq_false (Nat.not_lt.2 c14)
         try (have c14b3 := c14b2; simp only [ByteArray.size_append, bsz_mk, List.size_toArray, List.length_cons, List.length_nil, Nat.zero_add, Nat.reduceAdd] at c14b3)
         by_cases c15 : ((((((((⟨#[101, 118, 97, 108, 115, 32]⟩ : ByteArray) ++ t277) ++ (⟨#[32, 114, 101, 97, 100, 115, 32]⟩ : ByteArray)) ++ t278) ++ (⟨#[32, 99, 104, 97, 115, 101, 115, 32]⟩ : ByteArray)) ++ t279) ++ (⟨#[32, 101, 100, 103, 101, 115, 32]⟩ : ByteArray)) ++ t280).size + 8 ≤ 9223372036854775807
         ·rw [if_pos c15] at H
          have c15b0 := eq_true c15
          have c15b1 : decide (((((((((⟨#[101, 118, 97, 108, 115, 32]⟩ : ByteArray) ++ t277) ++ (⟨#[32, 114, 101, 97, 100, 115, 32]⟩ : ByteArray)) ++ t278) ++ (⟨#[32, 99, 104, 97, 115, 101, 115, 32]⟩ : ByteArray)) ++ t279) ++ (⟨#[32, 101, 100, 103, 101, 115, 32]⟩ : ByteArray)) ++ t280).size + 8 ≤ 9223372036854775807) = true := decide_eq_true c15
          try have c15b2 : (9223372036854775807 < ((((((((⟨#[101, 118, 97, 108, 115, 32]⟩ : ByteArray) ++ t277) ++ (⟨#[32, 114, 101, 97, 100, 115, 32]⟩ : ByteArray)) ++ t278) ++ (⟨#[32, 99, 104, 97, 115, 101, 115, 32]⟩ : ByteArray)) ++ t279) ++ (⟨#[32, 101, 100, 103, 101, 115, 32]⟩ : ByteArray)) ++ t280).size + 8) = False := eq_false (Nat.not_lt.2 c15)
          try (have c15b3 := c15b2; simp only [ByteArray.size_append, bsz_mk, List.size_toArray, List.length_cons, List.length_nil, Nat.zero_add, Nat.reduceAdd] at c15b3)
          replace H := Option.bind_eq_some_iff.mp H
          obtain ⟨t281, A160, H⟩ := H
          replace H : (if (((((((((⟨#[101, 118, 97, 108, 115, 32]⟩ : ByteArray) ++ t277) ++ (⟨#[32, 114, 101, 97, 100, 115, 32]⟩ : ByteArray)) ++ t278) ++ (⟨#[32, 99, 104, 97, 115, 101, 115, 32]⟩ : ByteArray)) ++ t279) ++ (⟨#[32, 101, 100, 103, 101, 115, 32]⟩ : ByteArray)) ++ t280) ++ (⟨#[32, 118, 105, 115, 105, 116, 115, 32]⟩ : ByteArray)).size + t281.size ≤ 9223372036854775807 then (some ((((((((((⟨#[101, 118, 97, 108, 115, 32]⟩ : ByteArray) ++ t277) ++ (⟨#[32, 114, 101, 97, 100, 115, 32]⟩ : ByteArray)) ++ t278) ++ (⟨#[32, 99, 104, 97, 115, 101, 115, 32]⟩ : ByteArray)) ++ t279) ++ (⟨#[32, 101, 100, 103, 101, 115, 32]⟩ : ByteArray)) ++ t280) ++ (⟨#[32, 118, 105, 115, 105, 116, 115, 32]⟩ : ByteArray)) ++ t281)) else (none)) = some r := H
          have A16 := Aside0.mk A160
          clear A160
          by_cases c17 : (((((((((⟨#[101, 118, 97, 108, 115, 32]⟩ : ByteArray) ++ t277) ++ (⟨#[32, 114, 101, 97, 100, 115, 32]⟩ : ByteArray)) ++ t278) ++ (⟨#[32, 99, 104, 97, 115, 101, 115, 32]⟩ : ByteArray)) ++ t279) ++ (⟨#[32, 101, 100, 103, 101, 115, 32]⟩ : ByteArray)) ++ t280) ++ (⟨#[32, 118, 105, 115, 105, 116, 115, 32]⟩ : ByteArray)).size + t281.size ≤ 9223372036854775807
          ·rw [if_pos c17] at H
           have c17b0 := eq_true c17
           have c17b1 : decide ((((((((((⟨#[101, 118, 97, 108, 115, 32]⟩ : ByteArray) ++ t277) ++ (⟨#[32, 114, 101, 97, 100, 115, 32]⟩ : ByteArray)) ++ t278) ++ (⟨#[32, 99, 104, 97, 115, 101, 115, 32]⟩ : ByteArray)) ++ t279) ++ (⟨#[32, 101, 100, 103, 101, 115, 32]⟩ : ByteArray)) ++ t280) ++ (⟨#[32, 118, 105, 115, 105, 116, 115, 32]⟩ : ByteArray)).size + t281.size ≤ 9223372036854775807) = true := decide_eq_true c17
           try have c17b2 : (9223372036854775807 < (((((((((⟨#[101, 118, 97, 108, 115, 32]⟩ : ByteArray) ++ t277) ++ (⟨#[32, 114, 101, 97, 100, 115, 32]⟩ : ByteArray)) ++ t278) ++ (⟨#[32, 99, 104, 97, 115, 101, 115, 32]⟩ : ByteArray)) ++ t279) ++ (⟨#[32, 101, 100, 103, 101, 115, 32]⟩ : ByteArray)) ++ t280) ++ (⟨#[32, 118, 105, 115, 105, 116, 115, 32]⟩ : ByteArray)).size + t281.size) = False := eq_false (Nat.not_lt.2 c17)
           try (have c17b3 := c17b2; simp only [ByteArray.size_append, bsz_mk, List.size_toArray, List.length_cons, List.length_nil, Nat.zero_add, Nat.reduceAdd] at c17b3)
           obtain rfl := Option.some.inj H
           go_enter Tryz.func27, Tryz.ntmps27
           try go_wp2_with (first | ((with_reducible refine gate_dst (N := 1) rfl ?_); refine box_event ?hg (N := 1) ?hd (cs := #[.int .i64 a0_0, .int .i64 a0_1, .int .i64 a0_2, .int .i64 a0_3, .int .i64 a0_4]) (t := 23) ?hr ?_; (case hd => rfl); (case hg => rfl); (case hr => first | (go_simp; done) | (go_simp; rfl)); intro gb275 hg w18 hbox hb; have n0_ := Aside0.mk (below_step (by repeat (first | (with_reducible first | exact HB.out | apply below_alloc | apply pw_below_drewN | apply below_drew1) | exact HB.out)) hb); have n1_ := Aside0.mk (hbox); have n2_ := Aside0.mk ((by rw [hg]; exact (below_size (by repeat (first | (with_reducible first | exact HB.out | apply below_alloc | apply pw_below_drewN | apply below_drew1) | exact HB.out))) : w.heap.size ≤ gb275)); have n3_ := Aside0.mk ((by rw [hg]; exact (below_size (by repeat (first | (with_reducible first | exact HB.out | apply below_alloc | apply pw_below_drewN | apply below_drew1) | exact HB.out))) : w.heap.size ≤ gb275)); clear HB; have HB := n0_; have BK275 := n1_; have GW275 := n2_; have GE275 := n3_; clear n0_ n1_ n2_ n3_; clear hb hbox hg; have hcz19_0 : w18.cell? ⟨gb275, 0, none⟩ = some (.int .i64 a0_0) := (blk_cell BK275.out 0).trans rfl; have hcz19_1 : w18.cell? ⟨gb275, 1, none⟩ = some (.int .i64 a0_1) := (blk_cell BK275.out 1).trans rfl; have hcz19_2 : w18.cell? ⟨gb275, 2, none⟩ = some (.int .i64 a0_2) := (blk_cell BK275.out 2).trans rfl; have hcz19_3 : w18.cell? ⟨gb275, 3, none⟩ = some (.int .i64 a0_3) := (blk_cell BK275.out 3).trans rfl; have hcz19_4 : w18.cell? ⟨gb275, 4, none⟩ = some (.int .i64 a0_4) := (blk_cell BK275.out 4).trans rfl; have hfz19_0 := blk_frozen BK275.out 0; have hfz19_1 := blk_frozen BK275.out 1; have hfz19_2 := blk_frozen BK275.out 2; have hfz19_3 := blk_frozen BK275.out 3; have hfz19_4 := blk_frozen BK275.out 4) | ((with_reducible refine gate_callee (f := 9) rfl ?_); refine goesL_ (some 4) rfl rfl Tryz.func9 (by kernel_rfl) rfl #[.agg #[.int .i64 a0_0, .int .i64 a0_1, .int .i64 a0_2, .int .i64 a0_3, .int .i64 a0_4]] rfl (by (try simp only [List.map_toArray, List.map_cons, List.map_nil]); first | done | rfl | (simp only [List.length_drop, List.length_take]; rfl)) ?_; (with_reducible refine (oculusref36_Right.calls a0_0 a0_1 a0_2 a0_3 a0_4 true _ A2.out).mono ?_); rintro e w20 ⟨rfl, hb⟩; refine ⟨_, rfl, ?_⟩; have n0_ := Aside0.mk (blk_below (g := gb275) (o := .cells #[.int .i64 a0_0, .int .i64 a0_1, .int .i64 a0_2, .int .i64 a0_3, .int .i64 a0_4] 23 (0, 0)) (by (with_reducible repeat (first | refine blk_drewN ?_ _ | refine blk_drew ?_ | refine blk_alloc ?_ _)); exact BK275.out) hb); have n1_ := Aside0.mk (below_step (by repeat (first | (with_reducible first | exact HB.out | apply below_alloc | apply pw_below_drewN | apply below_drew1 | refine below_set ?_ GE275.out) | exact HB.out)) hb); clear BK275; clear HB; have BK275 := n0_; have HB := n1_; clear n0_ n1_; (try clear hb); (try clear hb2); (try clear hk); (try clear hi)))
           have n0_ := Aside0.mk (blk_drew BK275.out)
           have n1_ := Aside0.mk (below_drew1 HB.out)
           clear BK275
           clear HB
           have BK275 := n0_
           have HB := n1_
           clear n0_ n1_
           refine start_ (n := 25) (S := fun w' => w'.cell? ⟨gb275, 0, none⟩ = some (.int .i64 a0_0) ∧ w'.cell? ⟨gb275, 1, none⟩ = some (.int .i64 a0_1) ∧ w'.cell? ⟨gb275, 2, none⟩ = some (.int .i64 a0_2) ∧ w'.cell? ⟨gb275, 3, none⟩ = some (.int .i64 a0_3) ∧ w'.cell? ⟨gb275, 4, none⟩ = some (.int .i64 a0_4)) (ds := []) #[false, false, false, false, false, false, false, false, false, false, false, false, false, false, false, false, false, false, false, false, false, false, false, false, false] (by kernel_rfl) rfl rfl ⟨(blk_cell BK275.out 0).trans rfl, (blk_cell BK275.out 1).trans rfl, (blk_cell BK275.out 2).trans rfl, (blk_cell BK275.out 3).trans rfl, (blk_cell BK275.out 4).trans rfl⟩ (fun hHeld => ?_); refine with_tabW oculusref36_Text.tab3 oculusref36_Text.bits3 (fun HT_ HW_ => ?_)
           generalize w20.drew = w21 at BK275 HB hHeld ⊢
           refine pure_ (i := 0) (N := some 6) (v := ?_) (a' := ?_) #[true, false, false, false, false, false, false, false, false, false, false, false, false, false, false, false, false, false, false, false, false, false, false, false, false] rfl rfl (any_of HT_.out (by kernel_rfl)) (fun _ _ _ h => h) (Or.inl ⟨by rfl, ?_⟩) ?_ ?_
           rotate_left
           ·intro w'
            go_simp
            with_reducible rfl
           rotate_left
           ·simp only [Act.put, List.setIfInBounds_toArray, List.set_cons_zero, List.set_cons_succ, i64_w, i32_w]
            rfl
           refine pure_ (i := 5) (N := some 11) (v := ?_) (a' := ?_) #[true, false, false, false, false, true, false, false, false, false, false, false, false, false, false, false, false, false, false, false, false, false, false, false, false] rfl rfl (any_of HT_.out (by kernel_rfl)) (fun _ _ _ h => h) (Or.inl ⟨by rfl, ?_⟩) ?_ ?_
           rotate_left
           ·intro w'
            go_simp
            with_reducible rfl
           rotate_left
           ·simp only [Act.put, List.setIfInBounds_toArray, List.set_cons_zero, List.set_cons_succ, i64_w, i32_w]
            rfl
           refine pure_ (i := 10) (N := some 16) (v := ?_) (a' := ?_) #[true, false, false, false, false, true, false, false, false, false, true, false, false, false, false, false, false, false, false, false, false, false, false, false, false] rfl rfl (any_of HT_.out (by kernel_rfl)) (fun _ _ _ h => h) (Or.inl ⟨by rfl, ?_⟩) ?_ ?_
           rotate_left
           ·intro w'
            go_simp
            with_reducible rfl
           rotate_left
           ·simp only [Act.put, List.setIfInBounds_toArray, List.set_cons_zero, List.set_cons_succ, i64_w, i32_w]
            rfl
           refine pure_ (i := 15) (N := some 21) (v := ?_) (a' := ?_) #[true, false, false, false, false, true, false, false, false, false, true, false, false, false, false, true, false, false, false, false, false, false, false, false, false] rfl rfl (any_of HT_.out (by kernel_rfl)) (fun _ _ _ h => h) (Or.inl ⟨by rfl, ?_⟩) ?_ ?_
           rotate_left
           ·intro w'
            go_simp
            with_reducible rfl
           rotate_left
           ·simp only [Act.put, List.setIfInBounds_toArray, List.set_cons_zero, List.set_cons_succ, i64_w, i32_w]
            rfl
           refine pure_ (i := 20) (N := some 26) (v := ?_) (a' := ?_) #[true, false, false, false, false, true, false, false, false, false, true, false, false, false, false, true, false, false, false, false, true, false, false, false, false] rfl rfl (any_of HT_.out (by kernel_rfl)) (fun _ _ _ h => h) (Or.inl ⟨by rfl, ?_⟩) ?_ ?_
           rotate_left
           ·intro w'
            go_simp
            with_reducible rfl
           rotate_left
           ·simp only [Act.put, List.setIfInBounds_toArray, List.set_cons_zero, List.set_cons_succ, i64_w, i32_w]
            rfl
           refine take_ (i := 1) (N := some 7) (v := ?_) (a' := ?_) #[true, true, false, false, false, true, false, false, false, false, true, false, false, false, false, true, false, false, false, false, true, false, false, false, false] rfl rfl (take_ofW HT_.out HW_.out (by kernel_rfl)) (fun _ _ _ h => h) (Or.inl ⟨by rfl, ?_⟩) hHeld ?_ ?_
           rotate_left
           ·rintro w' ⟨s0, s1, s2, s3, s4⟩
            go_simp
            with_reducible rfl
           rotate_left
           ·simp only [Act.put, List.setIfInBounds_toArray, List.set_cons_zero, List.set_cons_succ, i64_w, i32_w]
            rfl
           refine take_ (i := 6) (N := some 12) (v := ?_) (a' := ?_) #[true, true, false, false, false, true, true, false, false, false, true, false, false, false, false, true, false, false, false, false, true, false, false, false, false] rfl rfl (take_ofW HT_.out HW_.out (by kernel_rfl)) (fun _ _ _ h => h) (Or.inl ⟨by rfl, ?_⟩) hHeld ?_ ?_
           rotate_left
           ·rintro w' ⟨s0, s1, s2, s3, s4⟩
            go_simp
            with_reducible rfl
           rotate_left
           ·simp only [Act.put, List.setIfInBounds_toArray, List.set_cons_zero, List.set_cons_succ, i64_w, i32_w]
            rfl
           refine take_ (i := 11) (N := some 17) (v := ?_) (a' := ?_) #[true, true, false, false, false, true, true, false, false, false, true, true, false, false, false, true, false, false, false, false, true, false, false, false, false] rfl rfl (take_ofW HT_.out HW_.out (by kernel_rfl)) (fun _ _ _ h => h) (Or.inl ⟨by rfl, ?_⟩) hHeld ?_ ?_
           rotate_left
           ·rintro w' ⟨s0, s1, s2, s3, s4⟩
            go_simp
            with_reducible rfl
           rotate_left
           ·simp only [Act.put, List.setIfInBounds_toArray, List.set_cons_zero, List.set_cons_succ, i64_w, i32_w]
            rfl
           refine take_ (i := 16) (N := some 22) (v := ?_) (a' := ?_) #[true, true, false, false, false, true, true, false, false, false, true, true, false, false, false, true, true, false, false, false, true, false, false, false, false] rfl rfl (take_ofW HT_.out HW_.out (by kernel_rfl)) (fun _ _ _ h => h) (Or.inl ⟨by rfl, ?_⟩) hHeld ?_ ?_
           rotate_left
           ·rintro w' ⟨s0, s1, s2, s3, s4⟩
            go_simp
            with_reducible rfl
           rotate_left
           ·simp only [Act.put, List.setIfInBounds_toArray, List.set_cons_zero, List.set_cons_succ, i64_w, i32_w]
            rfl
           refine take_ (i := 21) (N := some 27) (v := ?_) (a' := ?_) #[true, true, false, false, false, true, true, false, false, false, true, true, false, false, false, true, true, false, false, false, true, true, false, false, false] rfl rfl (take_ofW HT_.out HW_.out (by kernel_rfl)) (fun _ _ _ h => h) (Or.inl ⟨by rfl, ?_⟩) hHeld ?_ ?_
           rotate_left
           ·rintro w' ⟨s0, s1, s2, s3, s4⟩
            go_simp
            with_reducible rfl
           rotate_left
           ·simp only [Act.put, List.setIfInBounds_toArray, List.set_cons_zero, List.set_cons_succ, i64_w, i32_w]
            rfl
           refine one_ (i := 2) (N := some 8) #[true, true, true, false, false, true, true, false, false, false, true, true, false, false, false, true, true, false, false, false, true, true, false, false, false] rfl rfl (one_of HT_.out (by kernel_rfl)) (by decide) (fun K hK => ?_)
           refine goes_ Tryz.func22 (by kernel_rfl) rfl #[.int .i64 a0_0] (by rfl) rfl rfl (by (try simp only [List.map_toArray, List.map_cons, List.map_nil]); first | done | rfl | (simp only [List.length_drop, List.length_take]; rfl)) ?_
           with_reducible refine (oculusref01_Digits.calls k a0_0 t277 _ A4.out).mono ?_
           rintro e w22 ⟨rfl, hb⟩
           refine ⟨_, rfl, ?_⟩
           have n0_ := Aside0.mk (blk_below (g := gb275) (o := .cells #[.int .i64 a0_0, .int .i64 a0_1, .int .i64 a0_2, .int .i64 a0_3, .int .i64 a0_4] 23 (0, 0)) (by (with_reducible repeat (first | refine blk_drewN ?_ _ | refine blk_drew ?_ | refine blk_alloc ?_ _)); exact BK275.out) hb)
           have n1_ := Aside0.mk (below_step (by repeat (first | (with_reducible first | exact HB.out | apply below_alloc | apply pw_below_drewN | apply below_drew1 | refine below_set ?_ GE275.out) | exact HB.out)) hb)
           clear BK275
           clear HB
           have BK275 := n0_
           have HB := n1_
           clear n0_ n1_
           (try clear hb)
           (try clear hb2)
           (try clear hk)
           (try clear hi)
           refine hK.out _ _ ⟨(blk_cell BK275.out 0).trans rfl, (blk_cell BK275.out 1).trans rfl, (blk_cell BK275.out 2).trans rfl, (blk_cell BK275.out 3).trans rfl, (blk_cell BK275.out 4).trans rfl⟩ (fun hHeld => ?_)
           clear hK K
           refine norm_ (a' := ?_) ?_ ?_
           rotate_left
           ·show Act.put _ (some 8) _ = _
            simp only [Act.put, List.setIfInBounds_toArray, List.set_cons_zero, List.set_cons_succ, i64_w, i32_w]
            rfl
           refine pure_ (i := 3) (N := some 9) (v := ?_) (a' := ?_) #[true, true, true, true, false, true, true, false, false, false, true, true, false, false, false, true, true, false, false, false, true, true, false, false, false] rfl rfl (any_of HT_.out (by kernel_rfl)) (fun _ _ _ h => h) (Or.inl ⟨by rfl, ?_⟩) ?_ ?_
           rotate_left
           ·intro w'
            go_simp
            with_reducible rfl
           rotate_left
           ·simp only [Act.put, List.setIfInBounds_toArray, List.set_cons_zero, List.set_cons_succ, i64_w, i32_w]
            rfl
           refine pure_ (i := 4) (N := some 10) (v := ?_) (a' := ?_) #[true, true, true, true, true, true, true, false, false, false, true, true, false, false, false, true, true, false, false, false, true, true, false, false, false] rfl rfl (any_of HT_.out (by kernel_rfl)) (fun _ _ _ h => h) (Or.inl ⟨by rfl, ?_⟩) ?_ ?_
           rotate_left
           ·intro w'
            go_simp
            with_reducible rfl
           rotate_left
           ·simp only [Act.put, List.setIfInBounds_toArray, List.set_cons_zero, List.set_cons_succ, i64_w, i32_w]
            rfl
           refine one_ (i := 7) (N := some 13) #[true, true, true, true, true, true, true, true, false, false, true, true, false, false, false, true, true, false, false, false, true, true, false, false, false] rfl rfl (one_of HT_.out (by kernel_rfl)) (by decide) (fun K hK => ?_)
           refine goes_ Tryz.func22 (by kernel_rfl) rfl #[.int .i64 a0_1] (by rfl) rfl rfl (by (try simp only [List.map_toArray, List.map_cons, List.map_nil]); first | done | rfl | (simp only [List.length_drop, List.length_take]; rfl)) ?_
           with_reducible refine (oculusref01_Digits.calls k a0_1 t278 _ A7.out).mono ?_
           rintro e w23 ⟨rfl, hb⟩
           refine ⟨_, rfl, ?_⟩
           have n0_ := Aside0.mk (blk_below (g := gb275) (o := .cells #[.int .i64 a0_0, .int .i64 a0_1, .int .i64 a0_2, .int .i64 a0_3, .int .i64 a0_4] 23 (0, 0)) (by (with_reducible repeat (first | refine blk_drewN ?_ _ | refine blk_drew ?_ | refine blk_alloc ?_ _)); exact BK275.out) hb)
           have n1_ := Aside0.mk (below_step (by repeat (first | (with_reducible first | exact HB.out | apply below_alloc | apply pw_below_drewN | apply below_drew1 | refine below_set ?_ GE275.out) | exact HB.out)) hb)
           clear BK275
           clear HB
           have BK275 := n0_
           have HB := n1_
           clear n0_ n1_
           (try clear hb)
           (try clear hb2)
           (try clear hk)
           (try clear hi)
           refine hK.out _ _ ⟨(blk_cell BK275.out 0).trans rfl, (blk_cell BK275.out 1).trans rfl, (blk_cell BK275.out 2).trans rfl, (blk_cell BK275.out 3).trans rfl, (blk_cell BK275.out 4).trans rfl⟩ (fun hHeld => ?_)
           clear hK K
           refine norm_ (a' := ?_) ?_ ?_
           rotate_left
           ·show Act.put _ (some 13) _ = _
            simp only [Act.put, List.setIfInBounds_toArray, List.set_cons_zero, List.set_cons_succ, i64_w, i32_w]
            rfl
           refine pure_ (i := 8) (N := some 14) (v := ?_) (a' := ?_) #[true, true, true, true, true, true, true, true, true, false, true, true, false, false, false, true, true, false, false, false, true, true, false, false, false] rfl rfl (any_of HT_.out (by kernel_rfl)) (fun _ _ _ h => h) (Or.inl ⟨by rfl, ?_⟩) ?_ ?_
           rotate_left
           ·intro w'
            go_simp
            with_reducible rfl
           rotate_left
           ·simp only [Act.put, List.setIfInBounds_toArray, List.set_cons_zero, List.set_cons_succ, i64_w, i32_w]
            rfl
           refine pure_ (i := 9) (N := some 15) (v := ?_) (a' := ?_) #[true, true, true, true, true, true, true, true, true, true, true, true, false, false, false, true, true, false, false, false, true, true, false, false, false] rfl rfl (any_of HT_.out (by kernel_rfl)) (fun _ _ _ h => h) (Or.inl ⟨by rfl, ?_⟩) ?_ ?_
           rotate_left
           ·intro w'
            go_simp
            with_reducible rfl
           rotate_left
           ·simp only [Act.put, List.setIfInBounds_toArray, List.set_cons_zero, List.set_cons_succ, i64_w, i32_w]
            rfl
           refine one_ (i := 12) (N := some 18) #[true, true, true, true, true, true, true, true, true, true, true, true, true, false, false, true, true, false, false, false, true, true, false, false, false] rfl rfl (one_of HT_.out (by kernel_rfl)) (by decide) (fun K hK => ?_)
           refine goes_ Tryz.func22 (by kernel_rfl) rfl #[.int .i64 a0_2] (by rfl) rfl rfl (by (try simp only [List.map_toArray, List.map_cons, List.map_nil]); first | done | rfl | (simp only [List.length_drop, List.length_take]; rfl)) ?_
           with_reducible refine (oculusref01_Digits.calls k a0_2 t279 _ A10.out).mono ?_
           rintro e w24 ⟨rfl, hb⟩
           refine ⟨_, rfl, ?_⟩
           have n0_ := Aside0.mk (blk_below (g := gb275) (o := .cells #[.int .i64 a0_0, .int .i64 a0_1, .int .i64 a0_2, .int .i64 a0_3, .int .i64 a0_4] 23 (0, 0)) (by (with_reducible repeat (first | refine blk_drewN ?_ _ | refine blk_drew ?_ | refine blk_alloc ?_ _)); exact BK275.out) hb)
           have n1_ := Aside0.mk (below_step (by repeat (first | (with_reducible first | exact HB.out | apply below_alloc | apply pw_below_drewN | apply below_drew1 | refine below_set ?_ GE275.out) | exact HB.out)) hb)
           clear BK275
           clear HB
           have BK275 := n0_
           have HB := n1_
           clear n0_ n1_
           (try clear hb)
           (try clear hb2)
           (try clear hk)
           (try clear hi)
           refine hK.out _ _ ⟨(blk_cell BK275.out 0).trans rfl, (blk_cell BK275.out 1).trans rfl, (blk_cell BK275.out 2).trans rfl, (blk_cell BK275.out 3).trans rfl, (blk_cell BK275.out 4).trans rfl⟩ (fun hHeld => ?_)
           clear hK K
           refine norm_ (a' := ?_) ?_ ?_
           rotate_left
           ·show Act.put _ (some 18) _ = _
            simp only [Act.put, List.setIfInBounds_toArray, List.set_cons_zero, List.set_cons_succ, i64_w, i32_w]
            rfl
           refine pure_ (i := 13) (N := some 19) (v := ?_) (a' := ?_) #[true, true, true, true, true, true, true, true, true, true, true, true, true, true, false, true, true, false, false, false, true, true, false, false, false] rfl rfl (any_of HT_.out (by kernel_rfl)) (fun _ _ _ h => h) (Or.inl ⟨by rfl, ?_⟩) ?_ ?_
           rotate_left
           ·intro w'
            go_simp
            with_reducible rfl
           rotate_left
           ·simp only [Act.put, List.setIfInBounds_toArray, List.set_cons_zero, List.set_cons_succ, i64_w, i32_w]
            rfl
           refine pure_ (i := 14) (N := some 20) (v := ?_) (a' := ?_) #[true, true, true, true, true, true, true, true, true, true, true, true, true, true, true, true, true, false, false, false, true, true, false, false, false] rfl rfl (any_of HT_.out (by kernel_rfl)) (fun _ _ _ h => h) (Or.inl ⟨by rfl, ?_⟩) ?_ ?_
           rotate_left
           ·intro w'
            go_simp
            with_reducible rfl
           rotate_left
           ·simp only [Act.put, List.setIfInBounds_toArray, List.set_cons_zero, List.set_cons_succ, i64_w, i32_w]
            rfl
           refine one_ (i := 17) (N := some 23) #[true, true, true, true, true, true, true, true, true, true, true, true, true, true, true, true, true, true, false, false, true, true, false, false, false] rfl rfl (one_of HT_.out (by kernel_rfl)) (by decide) (fun K hK => ?_)
           refine goes_ Tryz.func22 (by kernel_rfl) rfl #[.int .i64 a0_3] (by rfl) rfl rfl (by (try simp only [List.map_toArray, List.map_cons, List.map_nil]); first | done | rfl | (simp only [List.length_drop, List.length_take]; rfl)) ?_
           with_reducible refine (oculusref01_Digits.calls k a0_3 t280 _ A13.out).mono ?_
           rintro e w25 ⟨rfl, hb⟩
           refine ⟨_, rfl, ?_⟩
           have n0_ := Aside0.mk (blk_below (g := gb275) (o := .cells #[.int .i64 a0_0, .int .i64 a0_1, .int .i64 a0_2, .int .i64 a0_3, .int .i64 a0_4] 23 (0, 0)) (by (with_reducible repeat (first | refine blk_drewN ?_ _ | refine blk_drew ?_ | refine blk_alloc ?_ _)); exact BK275.out) hb)
           have n1_ := Aside0.mk (below_step (by repeat (first | (with_reducible first | exact HB.out | apply below_alloc | apply pw_below_drewN | apply below_drew1 | refine below_set ?_ GE275.out) | exact HB.out)) hb)
           clear BK275
           clear HB
           have BK275 := n0_
           have HB := n1_
           clear n0_ n1_
           (try clear hb)
           (try clear hb2)
           (try clear hk)
           (try clear hi)
           refine hK.out _ _ ⟨(blk_cell BK275.out 0).trans rfl, (blk_cell BK275.out 1).trans rfl, (blk_cell BK275.out 2).trans rfl, (blk_cell BK275.out 3).trans rfl, (blk_cell BK275.out 4).trans rfl⟩ (fun hHeld => ?_)
           clear hK K
           refine norm_ (a' := ?_) ?_ ?_
           rotate_left
           ·show Act.put _ (some 23) _ = _
            simp only [Act.put, List.setIfInBounds_toArray, List.set_cons_zero, List.set_cons_succ, i64_w, i32_w]
            rfl
           refine pure_ (i := 18) (N := some 24) (v := ?_) (a' := ?_) #[true, true, true, true, true, true, true, true, true, true, true, true, true, true, true, true, true, true, true, false, true, true, false, false, false] rfl rfl (any_of HT_.out (by kernel_rfl)) (fun _ _ _ h => h) (Or.inl ⟨by rfl, ?_⟩) ?_ ?_
           rotate_left
           ·intro w'
            go_simp
            with_reducible rfl
           rotate_left
           ·simp only [Act.put, List.setIfInBounds_toArray, List.set_cons_zero, List.set_cons_succ, i64_w, i32_w]
            rfl
           refine pure_ (i := 19) (N := some 25) (v := ?_) (a' := ?_) #[true, true, true, true, true, true, true, true, true, true, true, true, true, true, true, true, true, true, true, true, true, true, false, false, false] rfl rfl (any_of HT_.out (by kernel_rfl)) (fun _ _ _ h => h) (Or.inl ⟨by rfl, ?_⟩) ?_ ?_
           rotate_left
           ·intro w'
            go_simp
            with_reducible rfl
           rotate_left
           ·simp only [Act.put, List.setIfInBounds_toArray, List.set_cons_zero, List.set_cons_succ, i64_w, i32_w]
            rfl
           refine one_ (i := 22) (N := some 28) #[true, true, true, true, true, true, true, true, true, true, true, true, true, true, true, true, true, true, true, true, true, true, true, false, false] rfl rfl (one_of HT_.out (by kernel_rfl)) (by decide) (fun K hK => ?_)
           refine goes_ Tryz.func22 (by kernel_rfl) rfl #[.int .i64 a0_4] (by rfl) rfl rfl (by (try simp only [List.map_toArray, List.map_cons, List.map_nil]); first | done | rfl | (simp only [List.length_drop, List.length_take]; rfl)) ?_
           with_reducible refine (oculusref01_Digits.calls k a0_4 t281 _ A16.out).mono ?_
           rintro e w26 ⟨rfl, hb⟩
           refine ⟨_, rfl, ?_⟩
           have n0_ := Aside0.mk (blk_below (g := gb275) (o := .cells #[.int .i64 a0_0, .int .i64 a0_1, .int .i64 a0_2, .int .i64 a0_3, .int .i64 a0_4] 23 (0, 0)) (by (with_reducible repeat (first | refine blk_drewN ?_ _ | refine blk_drew ?_ | refine blk_alloc ?_ _)); exact BK275.out) hb)
           have n1_ := Aside0.mk (below_step (by repeat (first | (with_reducible first | exact HB.out | apply below_alloc | apply pw_below_drewN | apply below_drew1 | refine below_set ?_ GE275.out) | exact HB.out)) hb)
           clear BK275
           clear HB
           have BK275 := n0_
           have HB := n1_
           clear n0_ n1_
           (try clear hb)
           (try clear hb2)
           (try clear hk)
           (try clear hi)
           refine hK.out _ _ ⟨(blk_cell BK275.out 0).trans rfl, (blk_cell BK275.out 1).trans rfl, (blk_cell BK275.out 2).trans rfl, (blk_cell BK275.out 3).trans rfl, (blk_cell BK275.out 4).trans rfl⟩ (fun hHeld => ?_)
           clear hK K
           refine norm_ (a' := ?_) ?_ ?_
           rotate_left
           ·show Act.put _ (some 28) _ = _
            simp only [Act.put, List.setIfInBounds_toArray, List.set_cons_zero, List.set_cons_succ, i64_w, i32_w]
            rfl
           refine pure_ (i := 23) (N := some 29) (v := ?_) (a' := ?_) #[true, true, true, true, true, true, true, true, true, true, true, true, true, true, true, true, true, true, true, true, true, true, true, true, false] rfl rfl (any_of HT_.out (by kernel_rfl)) (fun _ _ _ h => h) (Or.inl ⟨by rfl, ?_⟩) ?_ ?_
           rotate_left
           ·intro w'
            go_simp
            with_reducible rfl
           rotate_left
           ·simp only [Act.put, List.setIfInBounds_toArray, List.set_cons_zero, List.set_cons_succ, i64_w, i32_w]
            rfl
           refine pure_ (i := 24) (N := some 2) (v := ?_) (a' := ?_) #[true, true, true, true, true, true, true, true, true, true, true, true, true, true, true, true, true, true, true, true, true, true, true, true, true] rfl rfl (any_of HT_.out (by kernel_rfl)) (fun _ _ _ h => h) (Or.inl ⟨by rfl, ?_⟩) ?_ ?_
           rotate_left
           ·intro w'
            go_simp
            with_reducible rfl
           rotate_left
           ·simp only [Act.put, List.setIfInBounds_toArray, List.set_cons_zero, List.set_cons_succ, i64_w, i32_w]
            rfl
           refine done_ (done_of HT_.out (by kernel_rfl)) ?_
           try go_wp2
           go_ret
           exact ⟨by first | rfl | (simp [errW_none, errW_some] <;> rfl) | (simp [*, errW_none, errW_some] <;> rfl), by repeat (first | (with_reducible first | exact HB.out | apply below_alloc | apply pw_below_drewN | apply below_drew1 | refine below_set ?_ GE275.out) | exact HB.out)⟩
          ·rw [if_neg c17] at H
           exact absurd H (by simp)
         ·rw [if_neg c15] at H
          exact absurd H (by simp)
        ·rw [if_neg c14] at H
         exact absurd H (by simp)
       ·rw [if_neg c12] at H
        exact absurd H (by simp)
      ·rw [if_neg c11] at H
       exact absurd H (by simp)
     ·rw [if_neg c9] at H
      exact absurd H (by simp)
    ·rw [if_neg c8] at H
     exact absurd H (by simp)
   ·rw [if_neg c6] at H
    exact absurd H (by simp)
  ·rw [if_neg c5] at H
   exact absurd H (by simp)
 ·replace c3 := Bool.eq_false_iff.mpr c3
  subst c3
  have H1 : (some (⟨#[]⟩ : ByteArray)) = some r := by rw [if_neg (show ¬ (false = true) by decide)] at H; exact H
  clear H
  have H := H1
  clear H1
  obtain rfl := Option.some.inj H
  go_enter Tryz.func27, Tryz.ntmps27
  go_wp2_with (first | ((with_reducible refine gate_dst (N := 1) rfl ?_); refine box_event ?hg (N := 1) ?hd (cs := #[.int .i64 a0_0, .int .i64 a0_1, .int .i64 a0_2, .int .i64 a0_3, .int .i64 a0_4]) (t := 23) ?hr ?_; (case hd => rfl); (case hg => rfl); (case hr => first | (go_simp; done) | (go_simp; rfl)); intro gb275 hg w27 hbox hb; have n0_ := Aside0.mk (below_step (by repeat (first | (with_reducible first | exact HB.out | apply below_alloc | apply pw_below_drewN | apply below_drew1) | exact HB.out)) hb); have n1_ := Aside0.mk (hbox); have n2_ := Aside0.mk ((by rw [hg]; exact (below_size (by repeat (first | (with_reducible first | exact HB.out | apply below_alloc | apply pw_below_drewN | apply below_drew1) | exact HB.out))) : w.heap.size ≤ gb275)); have n3_ := Aside0.mk ((by rw [hg]; exact (below_size (by repeat (first | (with_reducible first | exact HB.out | apply below_alloc | apply pw_below_drewN | apply below_drew1) | exact HB.out))) : w.heap.size ≤ gb275)); clear HB; have HB := n0_; have BK275 := n1_; have GW275 := n2_; have GE275 := n3_; clear n0_ n1_ n2_ n3_; clear hb hbox hg; have hcz28_0 : w27.cell? ⟨gb275, 0, none⟩ = some (.int .i64 a0_0) := (blk_cell BK275.out 0).trans rfl; have hcz28_1 : w27.cell? ⟨gb275, 1, none⟩ = some (.int .i64 a0_1) := (blk_cell BK275.out 1).trans rfl; have hcz28_2 : w27.cell? ⟨gb275, 2, none⟩ = some (.int .i64 a0_2) := (blk_cell BK275.out 2).trans rfl; have hcz28_3 : w27.cell? ⟨gb275, 3, none⟩ = some (.int .i64 a0_3) := (blk_cell BK275.out 3).trans rfl; have hcz28_4 : w27.cell? ⟨gb275, 4, none⟩ = some (.int .i64 a0_4) := (blk_cell BK275.out 4).trans rfl; have hfz28_0 := blk_frozen BK275.out 0; have hfz28_1 := blk_frozen BK275.out 1; have hfz28_2 := blk_frozen BK275.out 2; have hfz28_3 := blk_frozen BK275.out 3; have hfz28_4 := blk_frozen BK275.out 4) | ((with_reducible refine gate_callee (f := 9) rfl ?_); refine goesL_ (some 4) rfl rfl Tryz.func9 (by kernel_rfl) rfl #[.agg #[.int .i64 a0_0, .int .i64 a0_1, .int .i64 a0_2, .int .i64 a0_3, .int .i64 a0_4]] rfl (by (try simp only [List.map_toArray, List.map_cons, List.map_nil]); first | done | rfl | (simp only [List.length_drop, List.length_take]; rfl)) ?_; (with_reducible refine (oculusref36_Right.calls a0_0 a0_1 a0_2 a0_3 a0_4 false _ A2.out).mono ?_); rintro e w29 ⟨rfl, hb⟩; refine ⟨_, rfl, ?_⟩; have n0_ := Aside0.mk (blk_below (g := gb275) (o := .cells #[.int .i64 a0_0, .int .i64 a0_1, .int .i64 a0_2, .int .i64 a0_3, .int .i64 a0_4] 23 (0, 0)) (by (with_reducible repeat (first | refine blk_drewN ?_ _ | refine blk_drew ?_ | refine blk_alloc ?_ _)); exact BK275.out) hb); have n1_ := Aside0.mk (below_step (by repeat (first | (with_reducible first | exact HB.out | apply below_alloc | apply pw_below_drewN | apply below_drew1 | refine below_set ?_ GE275.out) | exact HB.out)) hb); clear BK275; clear HB; have BK275 := n0_; have HB := n1_; clear n0_ n1_; (try clear hb); (try clear hb2); (try clear hk); (try clear hi)))
  go_ret
  exact ⟨by first | rfl | (simp [errW_none, errW_some] <;> rfl) | (simp [*, errW_none, errW_some] <;> rfl), by repeat (first | (with_reducible first | exact HB.out | apply below_alloc | apply pw_below_drewN | apply below_drew1 | refine below_set ?_ GE275.out) | exact HB.out)⟩
end Go.Proofs.YtaljjdodjimgdaaGreatDoor.P
