/- The law ReplyTells answers true at every input of its row and leaves its arguments as they were; conditions: those of the row alone (the listed tables of the library read as laid). A part of the proof. -/
import Derived.Test.YtokcllgekkhaaaaGreatDoorRT11
import Derived.Test.YtokcllgekkhaaaaGreatDoorRows
import Derived.ProofKit
import Derived.JoinedOf
import Derived.Stop.Joined
namespace Go.Proofs.YtokcllgekkhaaaaGreatDoor.P
set_option maxRecDepth 100000
theorem laidOut : laidOutB Tryz.prog = true := by kernel_rfl
theorem mapsRowed_ : mapsRowed Tryz.prog = true := by kernel_rfl
theorem heard_ : Tryz.prog.stopsHeard = true := by kernel_rfl
theorem enter_ : Tryz.prog.mayEnter = true := by kernel_rfl
theorem and_mk {a b : Bool} (ha : a = true) (hb : b = true) : (a && b) = true := by rw [ha, hb]; rfl
end Go.Proofs.YtokcllgekkhaaaaGreatDoor.P
namespace Go.Proofs.YtokcllgekkhaaaaGreatDoor.P
set_option maxRecDepth 100000
theorem f_inPlace : (Rows.replyTellsRow.inPlace == Tryz.prog.inPlace 5) = true := by kernel_rfl
theorem f_unf : (Rows.replyTellsRow.unfollowed == Tryz.prog.unfollowed 5) = true := by kernel_rfl
theorem f_rec : (Rows.replyTellsRow.recurses == Tryz.prog.recurses 5) = true := by kernel_rfl
theorem f_named : (Rows.replyTellsRow.named == Tryz.prog.varsNamed 5) = true := by kernel_rfl
theorem f_plain : (Rows.replyTellsRow.plainKeys == Tryz.prog.plainKeys) = true := by kernel_rfl
theorem f_lifted : (Rows.replyTellsRow.lifted == Tryz.prog.liftsFinal) = true := by kernel_rfl
theorem f_make : (Tryz.prog.make == some Rows.replyTellsRow.make) = true := by kernel_rfl
theorem closed : joinedFacts Tryz.pinned.checked.prog 5 Tryz.f5 Rows.replyTellsSpec Rows.replyTellsRow = true := by
  show joinedFacts Tryz.prog 5 Tryz.f5 Rows.replyTellsSpec Rows.replyTellsRow = true
  unfold joinedFacts
  repeat' first | with_reducible exact laidOut | with_reducible exact mapsRowed_ | with_reducible exact heard_ | with_reducible exact enter_ | with_reducible exact f_inPlace | with_reducible exact f_unf | with_reducible exact f_rec | with_reducible exact f_named | with_reducible exact f_plain | with_reducible exact f_lifted | with_reducible exact f_make | with_reducible refine and_mk ?_ ?_ | kernel_rfl
end Go.Proofs.YtokcllgekkhaaaaGreatDoor.P
namespace Go.Proofs.YtokcllgekkhaaaaGreatDoor.P
open Go.RowKit Go.Proofs.YtokcllgekkhaaaaGreatDoorW.PrintWords Go.Proofs.YtokcllgekkhaaaaGreatDoorW.PrintLast Go.Proofs.YtokcllgekkhaaaaGreatDoorW.PrintMore
def kindOf (x : S61) : Int := if x.f2 = true then 1 else if x.f3.f0 = 4 ∧ x.f3.f1 = 7 then 7 else if 0 ≤ x.f3.f0 ∧ x.f3.f0 ≤ 4 then x.f3.f0 + 2 else 0
def cnt (j : Int) (l : List S61) : Nat := l.countP fun x => kindOf x == j
theorem cnt_le (j : Int) (l : List S61) : cnt j l ≤ l.length := List.countP_le_length
theorem cnt_drop (j : Int) (l : List S61) (i : Nat) (h : i < l.length) : cnt j (l.drop i) = cnt j (l.drop (i + 1)) + if kindOf l[i] = j then 1 else 0 := by
  unfold cnt
  rw [List.drop_eq_getElem_cons h, List.countP_cons]
  by_cases e : kindOf l[i] = j <;> simp [e]
theorem ref_kind (x : S61) : Ev (fun k => oculusref43_kind.f k x.f0.f0 x.f0.f1 x.f1 x.f2 x.f3.f0 x.f3.f1 x.f3.f2) (kindOf x) := by
  unfold oculusref43_kind.f kindOf
  have j : ∀ b : Bool, Ev (fun k => oculusref43_kind.j0 k b x.f0.f0 x.f0.f1 x.f1 x.f2 x.f3.f0 x.f3.f1 x.f3.f2) (if b = true then 7 else if 0 ≤ x.f3.f0 ∧ x.f3.f0 ≤ 4 then x.f3.f0 + 2 else 0) := by
    intro b
    refine ev_succ (fun k => oculusref43_kind.j0.eq_2 ..) ?_
    cases b
    · refine ev_neg (by simp) ?_
      by_cases h0 : x.f3.f0 ≥ 0
      · refine ev_pos h0 ?_
        by_cases h1 : x.f3.f0 ≤ 4
        · refine ev_pos h1 (ev_sub (ev_now _) ?_)
          rw [w64 (by omega) (by omega), if_neg (by simp), if_pos ⟨h0, h1⟩]
        · refine ev_neg h1 (ev_sub (ev_now _) ?_)
          rw [if_neg (by simp), if_neg (by omega)]
      · refine ev_neg h0 (ev_sub (ev_now _) ?_)
        rw [if_neg (by simp), if_neg (by omega)]
    · exact ev_pos rfl (ev_sub (ev_now _) (by simp))
  cases hx : x.f2
  · refine ev_neg (by simp) ?_
    rw [hx] at j
    by_cases h4 : x.f3.f0 = 4
    · refine ev_pos h4 (ev_sub (j _) ?_)
      by_cases h7 : x.f3.f1 = 7
      · simp [h4, h7]
      · simp [h4, h7]
    · refine ev_neg h4 (ev_sub (j _) ?_)
      simp [h4]
  · exact ev_pos rfl (ev_sub (ev_now _) (by simp))
theorem many_loop (l : List S61) (j : Int) (hl : l.length ≤ 1000) (d : Nat) : ∀ (i a : Nat), i + d = l.length → a ≤ i → Ev (fun k => oculusref43_Many.l0 k l j (a : Int) (i : Int)) ((a + cnt j (l.drop i) : Nat) : Int) := by
  induction d with
  | zero =>
    intro i a hi ha
    refine ev_succ (fun k => oculusref43_Many.l0.eq_2 ..) (ev_neg (by omega) (ev_sub (ev_now _) ?_))
    rw [List.drop_of_length_le (by omega)]; simp [cnt]
  | succ d ih =>
    intro i a hi ha
    have hlt : i < l.length := by omega
    refine ev_succ (fun k => oculusref43_Many.l0.eq_2 ..) (ev_pos (by omega) (ev_pos (by omega) ?_))
    rw [rd_at l i hlt, show wrap64 ((i : Int) + 1) = ((i + 1 : Nat) : Int) by rw [w64] <;> omega, show wrap64 ((a : Int) + 1) = ((a + 1 : Nat) : Int) by rw [w64] <;> omega]
    refine ev_bind (f := fun k t336 => if t336 = j then oculusref43_Many.l0 k l j ((a + 1 : Nat) : Int) ((i + 1 : Nat) : Int) else oculusref43_Many.l0 k l j (a : Int) ((i + 1 : Nat) : Int)) (ref_kind l[i]) ?_
    rw [cnt_drop j l i hlt]
    by_cases e : kindOf l[i] = j
    · refine ev_pos e (ev_sub (ih (i + 1) (a + 1) (by omega) (by omega)) ?_)
      rw [if_pos e]; congr 1; omega
    · refine ev_neg e (ev_sub (ih (i + 1) a (by omega) (by omega)) ?_)
      rw [if_neg e]; congr 1
theorem many_is (l : List S61) (j : Int) (hl : l.length ≤ 1000) : Ev (fun k => oculusref43_Many.f k l j) ((cnt j l : Nat) : Int) := by
  unfold oculusref43_Many.f
  exact ev_sub (many_loop l j hl l.length 0 0 (by omega) (by omega)) (by simp)
def countsOf (l : List S61) : List Int := [(l.length : Int), (cnt 1 l : Nat), (cnt 2 l : Nat), (cnt 3 l : Nat), (cnt 4 l : Nat), (cnt 5 l : Nat), (cnt 6 l : Nat), (cnt 7 l : Nat)]
theorem counts_is (l : List S61) (hl : l.length ≤ 1000) : Ev (fun k => oculusref43_Counts.f k l) (countsOf l) := by
  unfold oculusref43_Counts.f
  have step : ∀ (acc : List Int) (j : Nat) R, j < 8 → acc.length ≤ 100 → Ev (fun k => oculusref43_Counts.l0 k l (acc ++ [((cnt (j : Int) l : Nat) : Int)]) ((j + 1 : Nat) : Int)) R → Ev (fun k => oculusref43_Counts.l0 k l acc (j : Int)) R := by
    intro acc j R hj ha hR
    refine ev_succ (fun k => oculusref43_Counts.l0.eq_2 ..) (ev_pos (by omega) ?_)
    rw [show wrap64 ((j : Int) + 1) = ((j + 1 : Nat) : Int) by rw [w64] <;> omega]
    refine ev_bind (f := fun k t340 => if acc.length < 17592186044416 then oculusref43_Counts.l0 k l (acc ++ [t340]) ((j + 1 : Nat) : Int) else none) (many_is l (j : Int) hl) ?_
    exact ev_pos (by omega) hR
  refine step _ 1 _ (by omega) (by simp) ?_
  refine step _ 2 _ (by omega) (by simp) ?_
  refine step _ 3 _ (by omega) (by simp) ?_
  refine step _ 4 _ (by omega) (by simp) ?_
  refine step _ 5 _ (by omega) (by simp) ?_
  refine step _ 6 _ (by omega) (by simp) ?_
  refine step _ 7 _ (by omega) (by simp) ?_
  refine ev_succ (fun k => oculusref43_Counts.l0.eq_2 ..) (ev_neg (by omega) (ev_now _))
theorem pairs_len (ws : List (List UInt8)) : ∀ (b : Bool) (ns : List Int), (∀ w ∈ ws, w.length ≤ 100) → (∀ n ∈ ns, inCount n) → (pairs b ws ns).length ≤ 200 * ws.length := by
  induction ws with
  | nil => intro b ns _ _; simp [pairs]
  | cons w ws ih =>
    intro b ns hw hn
    cases ns with
    | nil => simp [pairs]
    | cons n ns =>
      have h1 := ih false ns (fun x hx => hw x (by simp [hx])) (fun x hx => hn x (by simp [hx]))
      have h2 := hw w (by simp)
      have h3 := hn n (by simp)
      have h4 := dec_len20 n.toNat (by unfold inCount at h3; omega)
      cases b <;> simp [pairs] <;> omega
theorem words_ok : ∀ w ∈ statWords, w.length ≤ 100 := by decide
theorem words8 : statWords.length = 8 := rfl
theorem words_at (j : Nat) (h : j < statWords.length) : rdOf ByteArray.empty (statWords.map mkS) (j : Int) = mkS statWords[j] := by
  unfold rdOf
  rw [Int.toNat_natCast, List.getD_eq_getElem?_getD, List.getElem?_map, List.getElem?_eq_getElem h]
  rfl
theorem ref_text_loop (ns : List Int) (h8 : ns.length = 8) (hn : ∀ n ∈ ns, inCount n) (d : Nat) : ∀ (i : Nat) (acc : List UInt8), i + d = 8 → acc.length ≤ 1000 * i →
    Ev (fun k => oculusref43_Text.l0 k ns (statWords.map mkS) (mkS acc) (i : Int)) (mkS (acc ++ pairs (decide (i = 0)) (statWords.drop i) (ns.drop i))) := by
  induction d with
  | zero =>
    intro i acc hi ha
    refine ev_succ (fun k => oculusref43_Text.l0.eq_2 ..) (ev_neg (by omega) (ev_sub (ev_now _) ?_))
    rw [show statWords.drop i = [] from List.drop_of_length_le (by show 8 ≤ i; omega)]
    simp [pairs]
  | succ d ih =>
    intro i acc hi ha
    have hlt : i < 8 := by omega
    have hn1 : i < ns.length := by omega
    have hr : rd ns (i : Int) = ns[i] := by
      unfold rd
      rw [Int.toNat_natCast, List.getD_eq_getElem?_getD, List.getElem?_eq_getElem hn1]; rfl
    have hc := hn ns[i] (by simp)
    unfold inCount at hc
    have hlw : i < statWords.length := by rw [words8]; exact hlt
    have hwl := words_ok statWords[i] (List.getElem_mem hlw)
    have hwa := words_at i hlw
    have ew : statWords.drop i = statWords[i] :: statWords.drop (i + 1) := List.drop_eq_getElem_cons hlw
    generalize statWords[i] = w at hwl hwa ew
    have hdl := dec_len20 (ns[i]).toNat (by omega)
    refine ev_succ (fun k => oculusref43_Text.l0.eq_2 ..) (ev_pos (by omega) (ev_pos (by omega) (ev_pos (by omega) ?_)))
    rw [hr]
    refine ev_neg (by omega) ?_
    rw [show decide (ns[i] > 1000000000) = false from decide_eq_false (by omega)]
    refine ev_succ (fun k => oculusref43_Text.j1.eq_2 ..) (ev_neg (by simp) ?_)
    rw [hr, hwa, show wrap64 ((i : Int) + 1) = ((i + 1 : Nat) : Int) by rw [w64] <;> omega]
    have hd := ref01_digits (n := ns[i]) hc.1 (by omega)
    have en : ns.drop i = ns[i] :: ns.drop (i + 1) := List.drop_eq_getElem_cons hn1
    by_cases h0 : i = 0
    · subst h0
      refine ev_neg (by omega) (ev_pos (by omega) (ev_pos (by rw [List.length_map, words8]; omega) ?_))
      simp only [lit_mkS, mkS_append, mkS_size]
      refine ev_pos (by omega) (ev_pos (by simp; omega) (ev_pos (by omega) ?_))
      refine ev_bind (f := fun k t333 => if (acc ++ w ++ [32]).length + ByteArray.size t333 ≤ 9223372036854775807 then oculusref43_Text.l0 k ns (statWords.map mkS) (mkS (acc ++ w ++ [32]) ++ t333) ((0 + 1 : Nat) : Int) else none) hd ?_
      simp only [mkS_append, mkS_size]
      refine ev_pos (by simp; omega) (ev_sub (ih 1 _ (by omega) (by simp; omega)) ?_)
      rw [ew, en]
      simp [pairs]
    · refine ev_pos (by omega) (ev_pos (by rw [mkS_size]; omega) (ev_pos (by omega) (ev_pos (by rw [List.length_map, words8]; omega) ?_)))
      simp only [lit_mkS, mkS_append, mkS_size]
      refine ev_pos (by simp; omega) (ev_pos (by simp; omega) (ev_pos (by omega) ?_))
      refine ev_bind (f := fun k t330 => if (acc ++ [32] ++ w ++ [32]).length + ByteArray.size t330 ≤ 9223372036854775807 then oculusref43_Text.l0 k ns (statWords.map mkS) (mkS (acc ++ [32] ++ w ++ [32]) ++ t330) ((i + 1 : Nat) : Int) else none) hd ?_
      simp only [mkS_append, mkS_size]
      refine ev_pos (by simp; omega) (ev_sub (ih (i + 1) _ (by omega) (by simp; omega)) ?_)
      rw [ew, en]
      simp [pairs, h0]
theorem ref_text (ns : List Int) (h8 : ns.length = 8) (hn : ∀ n ∈ ns, inCount n) : Ev (fun k => oculusref43_Text.f k ns) (mkS (pairs true statWords ns)) := by
  unfold oculusref43_Text.f
  exact ev_sub (ref_text_loop ns h8 hn 8 0 [] (by omega) (by simp)) (by simp)
end Go.Proofs.YtokcllgekkhaaaaGreatDoor.P
namespace Go.Proofs.YtokcllgekkhaaaaGreatDoor.P
open Go.RowKit Go.Proofs.YtokcllgekkhaaaaGreatDoorW.PrintWords Go.Proofs.YtokcllgekkhaaaaGreatDoorW.PrintLast Go.Proofs.YtokcllgekkhaaaaGreatDoorW.PrintMore
theorem good_kind (x : S61) (h : goodRow x) : 0 ≤ x.f3.f0 ∧ x.f3.f0 ≤ 4 := by
 rcases h.2 with h | h | h | h | h <;> omega
theorem stats_loop (l : List S61) (hl : l.length ≤ 100) (hg : ∀ x ∈ l, goodRow x) (d : Nat) : ∀ (i a0 a1 a2 a3 a4 a5 a6 a7 : Nat), i + d = l.length → a0 ≤ i → a1 ≤ i → a2 ≤ i → a3 ≤ i → a4 ≤ i → a5 ≤ i → a6 ≤ i → a7 ≤ i →
  Ev (fun k => stats_Of.l0 k l (l.length : Int) (i : Int) (a0 : Int) (a1 : Int) (a2 : Int) (a3 : Int) (a4 : Int) (a5 : Int) (a6 : Int) (a7 : Int))
   (((a0 + d : Nat) : Int), ((a1 + cnt 1 (l.drop i) : Nat) : Int), ((a2 + cnt 2 (l.drop i) : Nat) : Int), ((a3 + cnt 3 (l.drop i) : Nat) : Int), ((a4 + cnt 4 (l.drop i) : Nat) : Int), ((a5 + cnt 5 (l.drop i) : Nat) : Int), ((a6 + cnt 6 (l.drop i) : Nat) : Int), ((a7 + cnt 7 (l.drop i) : Nat) : Int)) := by
 induction d with
 | zero =>
  intro i a0 a1 a2 a3 a4 a5 a6 a7 hi h0 h1 h2 h3 h4 h5 h6 h7
  refine ev_succ (fun k => stats_Of.l0.eq_2 ..) (ev_neg (by omega) (ev_sub (ev_now _) ?_))
  rw [List.drop_of_length_le (by omega)]; simp [cnt]
 | succ d ih =>
  intro i a0 a1 a2 a3 a4 a5 a6 a7 hi h0 h1 h2 h3 h4 h5 h6 h7
  have hlt : i < l.length := by omega
  obtain ⟨k0, k4⟩ := good_kind l[i] (hg _ (by simp))
  refine ev_succ (fun k => stats_Of.l0.eq_2 ..) (ev_pos (by omega) (ev_pos (by omega) (ev_pos (by omega) ?_)))
  have up : ∀ a : Nat, a ≤ i → wrap64 ((a : Int) + 1) = ((a + 1 : Nat) : Int) := fun a ha => by rw [w64] <;> omega
  rw [rd_at l i hlt, up i (Nat.le_refl _), up a0 h0, up a1 h1, up a2 h2, up a3 h3, up a4 h4, up a5 h5, up a6 h6, up a7 h7]
  simp only [cnt_drop _ l i hlt]
  cases hf : l[i].f2
  ·refine ev_neg (by simp) ?_
   by_cases e0 : l[i].f3.f0 = 0
   ·refine ev_pos e0 (ev_sub (ih _ _ _ _ _ _ _ _ _ (by omega) (by omega) (by omega) (by omega) (by omega) (by omega) (by omega) (by omega) (by omega)) ?_)
    have hk : kindOf l[i] = 2 := by simp [kindOf, hf, e0]
    simp [hk]; omega
   ·refine ev_neg e0 ?_
    by_cases e1 : l[i].f3.f0 = 1
    ·refine ev_pos e1 (ev_sub (ih _ _ _ _ _ _ _ _ _ (by omega) (by omega) (by omega) (by omega) (by omega) (by omega) (by omega) (by omega) (by omega)) ?_)
     have hk : kindOf l[i] = 3 := by simp [kindOf, hf, e1]
     simp [hk]; omega
    ·refine ev_neg e1 ?_
     by_cases e2 : l[i].f3.f0 = 2
     ·refine ev_pos e2 (ev_sub (ih _ _ _ _ _ _ _ _ _ (by omega) (by omega) (by omega) (by omega) (by omega) (by omega) (by omega) (by omega) (by omega)) ?_)
      have hk : kindOf l[i] = 4 := by simp [kindOf, hf, e2]
      simp [hk]; omega
     ·refine ev_neg e2 ?_
      by_cases e3 : l[i].f3.f0 = 3
      ·refine ev_pos e3 (ev_sub (ih _ _ _ _ _ _ _ _ _ (by omega) (by omega) (by omega) (by omega) (by omega) (by omega) (by omega) (by omega) (by omega)) ?_)
       have hk : kindOf l[i] = 5 := by simp [kindOf, hf, e3]
       simp [hk]; omega
      ·refine ev_neg e3 ?_
       have e4 : l[i].f3.f0 = 4 := by omega
       refine ev_pos e4 ?_
       by_cases e7 : l[i].f3.f1 = 7
       ·refine ev_pos e7 (ev_sub (ih _ _ _ _ _ _ _ _ _ (by omega) (by omega) (by omega) (by omega) (by omega) (by omega) (by omega) (by omega) (by omega)) ?_)
        have hk : kindOf l[i] = 7 := by simp [kindOf, hf, e4, e7]
        simp [hk]; omega
       ·refine ev_neg e7 (ev_sub (ih _ _ _ _ _ _ _ _ _ (by omega) (by omega) (by omega) (by omega) (by omega) (by omega) (by omega) (by omega) (by omega)) ?_)
        have hk : kindOf l[i] = 6 := by simp [kindOf, hf, e4, e7]
        simp [hk]; omega
  ·refine ev_pos rfl (ev_sub (ih _ _ _ _ _ _ _ _ _ (by omega) (by omega) (by omega) (by omega) (by omega) (by omega) (by omega) (by omega) (by omega)) ?_)
   have hk : kindOf l[i] = 1 := by simp [kindOf, hf]
   simp [hk]; omega
theorem stats_is (l : List S61) (hl : l.length ≤ 100) (hg : ∀ x ∈ l, goodRow x) : Ev (fun k => stats_Of.f k l) ((l.length : Int), ((cnt 1 l : Nat) : Int), ((cnt 2 l : Nat) : Int), ((cnt 3 l : Nat) : Int), ((cnt 4 l : Nat) : Int), ((cnt 5 l : Nat) : Int), ((cnt 6 l : Nat) : Int), ((cnt 7 l : Nat) : Int)) := by
 unfold stats_Of.f
 exact ev_sub (stats_loop l hl hg l.length 0 0 0 0 0 0 0 0 0 (by omega) (by omega) (by omega) (by omega) (by omega) (by omega) (by omega) (by omega) (by omega)) (by simp)
def revText (n : Int) : List UInt8 := [114, 101, 118, 105, 115, 105, 111, 110, 32] ++ Lib.decDigits n.toNat
theorem reply_rev (n : Int) (h0 : 0 ≤ n) (h1 : n ≤ 1000000000) : Ev (fun k => reply_Rev.f k n) (mkS (revText n)) := by
 unfold reply_Rev.f revText
 refine ev_bind (f := fun _ t314 => if 9 + t314.size ≤ 9223372036854775807 then some ((⟨#[114, 101, 118, 105, 115, 105, 111, 110, 32]⟩ : ByteArray) ++ t314) else none) (count_text n h0 h1) ?_
 have := dec_len20 n.toNat (by omega)
 simp only [lit_mkS, mkS_append, mkS_size]
 exact ev_pos (by omega) (ev_now _)
theorem ref_rev (n : Int) (h0 : 0 ≤ n) (h1 : n ≤ 1000000000) : Ev (fun k => oculusref45_Rev.f k n) (mkS (revText n)) := by
 unfold oculusref45_Rev.f revText
 refine ev_bind (f := fun _ t315 => if 9 + t315.size ≤ 9223372036854775807 then some ((⟨#[114, 101, 118, 105, 115, 105, 111, 110, 32]⟩ : ByteArray) ++ t315) else none) (ref01_digits h0 (by omega)) ?_
 have := dec_len20 n.toNat (by omega)
 simp only [lit_mkS, mkS_append, mkS_size]
 exact ev_pos (by omega) (ev_now _)
theorem counts_in (l : List S61) (hl : l.length ≤ 100) : ∀ n ∈ countsOf l, inCount n := by
 intro n hn
 have c1 := cnt_le 1 l; have c2 := cnt_le 2 l; have c3 := cnt_le 3 l; have c4 := cnt_le 4 l; have c5 := cnt_le 5 l; have c6 := cnt_le 6 l; have c7 := cnt_le 7 l
 unfold inCount
 simp only [countsOf, List.mem_cons, List.mem_nil_iff, or_false] at hn
 rcases hn with h | h | h | h | h | h | h | h <;> omega
def statsBytes (l : List S61) (n : Int) : List UInt8 := pairs true statWords (countsOf l) ++ [32] ++ revText n
theorem reply_stats (l : List S61) (hl : l.length ≤ 100) (n : Int) (h0 : 0 ≤ n) (h1 : n ≤ 1000000000) :
  Ev (fun k => reply_Stats.f k (l.length : Int) ((cnt 1 l : Nat) : Int) ((cnt 2 l : Nat) : Int) ((cnt 3 l : Nat) : Int) ((cnt 4 l : Nat) : Int) ((cnt 5 l : Nat) : Int) ((cnt 6 l : Nat) : Int) ((cnt 7 l : Nat) : Int) n) (mkS (statsBytes l n)) := by
 unfold reply_Stats.f statsBytes
 have hc := counts_in l hl
 have e : stats_Text.f (l.length : Int) ((cnt 1 l : Nat) : Int) ((cnt 2 l : Nat) : Int) ((cnt 3 l : Nat) : Int) ((cnt 4 l : Nat) : Int) ((cnt 5 l : Nat) : Int) ((cnt 6 l : Nat) : Int) ((cnt 7 l : Nat) : Int) = some (mkS (pairs true statWords (countsOf l))) := by
  unfold stats_Text.f
  rw [if_pos ⟨hc _ (by simp [countsOf]), hc _ (by simp [countsOf]), hc _ (by simp [countsOf]), hc _ (by simp [countsOf]), hc _ (by simp [countsOf]), hc _ (by simp [countsOf]), hc _ (by simp [countsOf]), hc _ (by simp [countsOf])⟩]
  rfl
 refine ev_eq e ?_
 have hp := pairs_len statWords true (countsOf l) words_ok hc
 rw [words8] at hp
 have hd := dec_len20 n.toNat (by omega)
 refine ev_pos (by rw [mkS_size]; omega) ?_
 refine ev_bind (f := fun _ t318 => if (mkS (pairs true statWords (countsOf l)) ++ (⟨#[32]⟩ : ByteArray)).size + t318.size ≤ 9223372036854775807 then some ((mkS (pairs true statWords (countsOf l)) ++ (⟨#[32]⟩ : ByteArray)) ++ t318) else none) (reply_rev n h0 h1) ?_
 simp only [lit_mkS, mkS_append, mkS_size]
 exact ev_pos (by simp [revText]; omega) (ev_now _)
theorem ref_stats (l : List S61) (hl : l.length ≤ 100) (n : Int) (h0 : 0 ≤ n) (h1 : n ≤ 1000000000) : Ev (fun k => oculusref45_Stats.f k l n) (mkS (statsBytes l n)) := by
 unfold oculusref45_Stats.f statsBytes
 have hc := counts_in l hl
 have hp := pairs_len statWords true (countsOf l) words_ok hc
 rw [words8] at hp
 have hd := dec_len20 n.toNat (by omega)
 refine ev_bind (f := fun k t344 => (oculusref43_Text.f k t344).bind fun t347 => (if t347.size + 1 ≤ 9223372036854775807 then ((oculusref45_Rev.f k n).bind fun t348 => (if (t347 ++ (⟨#[32]⟩ : ByteArray)).size + t348.size ≤ 9223372036854775807 then (some ((t347 ++ (⟨#[32]⟩ : ByteArray)) ++ t348)) else (none))) else (none))) (counts_is l (by omega)) ?_
 refine ev_bind (f := fun k t347 => (if t347.size + 1 ≤ 9223372036854775807 then ((oculusref45_Rev.f k n).bind fun t348 => (if (t347 ++ (⟨#[32]⟩ : ByteArray)).size + t348.size ≤ 9223372036854775807 then (some ((t347 ++ (⟨#[32]⟩ : ByteArray)) ++ t348)) else (none))) else (none))) (ref_text (countsOf l) rfl hc) ?_
 refine ev_pos (by rw [mkS_size]; omega) ?_
 refine ev_bind (f := fun _ t348 => if (mkS (pairs true statWords (countsOf l)) ++ (⟨#[32]⟩ : ByteArray)).size + t348.size ≤ 9223372036854775807 then some ((mkS (pairs true statWords (countsOf l)) ++ (⟨#[32]⟩ : ByteArray)) ++ t348) else none) (ref_rev n h0 h1) ?_
 simp only [lit_mkS, mkS_append, mkS_size]
 exact ev_pos (by simp [revText]; omega) (ev_now _)
def valueBytes (hid : Bool) (k n : Int) (t : List UInt8) (there : Bool) : List UInt8 :=
 if there = true then (if hid = true then [118, 97, 108, 117, 101, 32, 63] else [118, 97, 108, 117, 101, 32] ++ showText k n t) else [118, 97, 108, 117, 101]
theorem show_len2 (k n : Int) (t : List UInt8) (h0 : -9223372036854775808 ≤ n) (h1 : n ≤ 9223372036854775807) (hm : MayV k n t) : (showText k n t).length ≤ 600 :=
 showText_len _ _ _ (by omega) (by rcases hm with ⟨_, h, _⟩ | ⟨_, h, _⟩ | ⟨_, _, h⟩ | ⟨_, h, _⟩ | ⟨_, h, _⟩ <;> first | omega | simp [h])
theorem reply_value (r c : Int) (x : ByteArray) (hid : Bool) (k n : Int) (t : ByteArray) (there : Bool) (h0 : -9223372036854775808 ≤ n) (h1 : n ≤ 9223372036854775807) (hm : MayV k n t.data.toList) :
  Ev (fun q => reply_Value.f q r c x hid k n t there) (mkS (valueBytes hid k n t.data.toList there)) := by
 unfold reply_Value.f valueBytes
 cases there
 ·exact ev_neg (by simp) (ev_sub (ev_now _) (by simp [mkS]))
 ·refine ev_pos rfl ?_
  cases hid
  ·refine ev_neg (by simp) ?_
   refine ev_bind (f := fun _ t141 => if 6 + t141.size ≤ 9223372036854775807 then some ((⟨#[118, 97, 108, 117, 101, 32]⟩ : ByteArray) ++ t141) else none) (value_show k n t h1 hm) ?_
   have := show_len2 k n t.data.toList h0 h1 hm
   simp only [lit_mkS, mkS_append, mkS_size]
   exact ev_pos (by omega) (ev_sub (ev_now _) (by simp))
  ·exact ev_pos rfl (ev_sub (ev_now _) (by simp [mkS]))
theorem ref_value (r c : Int) (x : ByteArray) (hid : Bool) (k n : Int) (t : ByteArray) (there : Bool) (h0 : -9223372036854775808 ≤ n) (h1 : n ≤ 9223372036854775807) (hm : MayV k n t.data.toList) :
  Ev (fun q => oculusref45_Value.f q r c x hid k n t there) (mkS (valueBytes hid k n t.data.toList there)) := by
 unfold oculusref45_Value.f valueBytes
 cases there
 ·exact ev_neg (by simp) (ev_sub (ev_now _) (by simp [mkS]))
 ·refine ev_pos rfl ?_
  cases hid
  ·refine ev_neg (by simp) ?_
   refine ev_bind (f := fun _ t289 => if 6 + t289.size ≤ 9223372036854775807 then some ((⟨#[118, 97, 108, 117, 101, 32]⟩ : ByteArray) ++ t289) else none) (ref12_show k n t h1 hm) ?_
   have := show_len2 k n t.data.toList h0 h1 hm
   simp only [lit_mkS, mkS_append, mkS_size]
   exact ev_pos (by omega) (ev_sub (ev_now _) (by simp))
  ·exact ev_pos rfl (ev_sub (ev_now _) (by simp [mkS]))
theorem formula_same (r c : Int) (x : ByteArray) (hid : Bool) (k n : Int) (t : ByteArray) (there : Bool) (hx : x.size ≤ 300) : ∃ s, reply_Formula.f r c x hid k n t there = some s ∧ oculusref45_Formula.f r c x hid k n t there = some s := by
 unfold reply_Formula.f oculusref45_Formula.f
 cases there
 ·exact ⟨_, rfl, rfl⟩
 ·simp only [if_true]
  rw [if_pos (by omega)]
  exact ⟨_, rfl, rfl⟩
theorem replyTells_pure (l : List S61) (x : S61) (n : Int) (hl : ∀ y ∈ l, numOk y) (hx : numOk x) :
  ∃ k, oculuslaw45_ReplyTells.f k l x.f0.f0 x.f0.f1 x.f1 x.f2 x.f3.f0 x.f3.f1 x.f3.f2 n = some true := by
 apply Ev.rounds
 unfold oculuslaw45_ReplyTells.f
 have alive : Ev (fun k => oculuslaw45_ReplyTells.j0 k l n true x.f0.f0 x.f0.f1 x.f1 x.f2 x.f3.f0 x.f3.f1 x.f3.f2) true :=
  ev_succ (fun k => oculuslaw45_ReplyTells.j0.eq_2 ..) (ev_pos rfl (ev_bind (f := fun _ t => some t) ev_alive45 (ev_now _)))
 obtain ⟨b, hb, hg⟩ := small_is l
 refine ev_bind (f := fun k t350 => (if t350 = true then ((oculuslaw45_small.f k (([(⟨(⟨x.f0.f0, x.f0.f1⟩ : S23), x.f1, x.f2, (⟨x.f3.f0, x.f3.f1, x.f3.f2⟩ : S35)⟩ : S61)] : List (S61)))).bind fun t354 => (if t354 = true then (if n < 0 then (oculuslaw45_ReplyTells.j0 k l n true x.f0.f0 x.f0.f1 x.f1 x.f2 x.f3.f0 x.f3.f1 x.f3.f2) else (oculuslaw45_ReplyTells.j0 k l n (decide (n > 1000000000)) x.f0.f0 x.f0.f1 x.f1 x.f2 x.f3.f0 x.f3.f1 x.f3.f2)) else (oculuslaw45_ReplyTells.j0 k l n true x.f0.f0 x.f0.f1 x.f1 x.f2 x.f3.f0 x.f3.f1 x.f3.f2))) else (oculuslaw45_ReplyTells.j0 k l n true x.f0.f0 x.f0.f1 x.f1 x.f2 x.f3.f0 x.f3.f1 x.f3.f2))) hb ?_
 cases b
 ·exact ev_neg (by simp) alive
 ·refine ev_pos rfl ?_
  obtain ⟨hl1, hl2⟩ := hg rfl
  obtain ⟨b2, hb2, hg2⟩ := small_is [(⟨(⟨x.f0.f0, x.f0.f1⟩ : S23), x.f1, x.f2, (⟨x.f3.f0, x.f3.f1, x.f3.f2⟩ : S35)⟩ : S61)]
  refine ev_bind (f := fun k t354 => (if t354 = true then (if n < 0 then (oculuslaw45_ReplyTells.j0 k l n true x.f0.f0 x.f0.f1 x.f1 x.f2 x.f3.f0 x.f3.f1 x.f3.f2) else (oculuslaw45_ReplyTells.j0 k l n (decide (n > 1000000000)) x.f0.f0 x.f0.f1 x.f1 x.f2 x.f3.f0 x.f3.f1 x.f3.f2)) else (oculuslaw45_ReplyTells.j0 k l n true x.f0.f0 x.f0.f1 x.f1 x.f2 x.f3.f0 x.f3.f1 x.f3.f2))) hb2 ?_
  cases b2
  ·exact ev_neg (by simp) alive
  ·refine ev_pos rfl ?_
   have gx : goodRow x := (hg2 rfl).2 0 (by simp)
   have gl : ∀ y ∈ l, goodRow y := fun y hy => by
    obtain ⟨j, hj, rfl⟩ := List.getElem_of_mem hy
    exact hl2 j hj
   have gl2 : ∀ y ∈ l, goodRow y ∧ numOk y := fun y hy => ⟨gl y hy, hl y hy⟩
   by_cases hn : n < 0
   ·exact ev_pos hn alive
   ·refine ev_neg hn ?_
    by_cases hn2 : n > 1000000000
    ·rw [show decide (n > 1000000000) = true from decide_eq_true hn2]; exact alive
    ·rw [show decide (n > 1000000000) = false from decide_eq_false hn2]
     refine ev_succ (fun k => oculuslaw45_ReplyTells.j0.eq_2 ..) (ev_neg (by simp) (ev_some ?_))
     have hv : ∀ b, Ev (fun q => reply_Value.f q x.f0.f0 x.f0.f1 x.f1 x.f2 x.f3.f0 x.f3.f1 x.f3.f2 b) (mkS (valueBytes x.f2 x.f3.f0 x.f3.f1 x.f3.f2.data.toList b)) := fun b => reply_value _ _ _ _ _ _ _ b hx.1 hx.2 gx.2
     have hv2 : ∀ b, Ev (fun q => oculusref45_Value.f q x.f0.f0 x.f0.f1 x.f1 x.f2 x.f3.f0 x.f3.f1 x.f3.f2 b) (mkS (valueBytes x.f2 x.f3.f0 x.f3.f1 x.f3.f2.data.toList b)) := fun b => ref_value _ _ _ _ _ _ _ b hx.1 hx.2 gx.2
     have step : ∀ (i : Nat), i < 2 → Ev (fun k => oculuslaw45_ReplyTells.l0 k l n [true, false] 2 ((i + 1 : Nat) : Int) x.f0.f0 x.f0.f1 x.f1 x.f2 x.f3.f0 x.f3.f1 x.f3.f2) true → Ev (fun k => oculuslaw45_ReplyTells.l0 k l n [true, false] 2 (i : Int) x.f0.f0 x.f0.f1 x.f1 x.f2 x.f3.f0 x.f3.f1 x.f3.f2) true := by
      intro i hi hR
      refine ev_succ (fun k => oculuslaw45_ReplyTells.l0.eq_2 ..) (ev_pos (by omega) (ev_pos (by omega) (ev_pos (by simp; omega) ?_)))
      generalize rdOf false [true, false] (i : Int) = b
      rw [show wrap64 ((i : Int) + 1) = ((i + 1 : Nat) : Int) by rw [w64] <;> omega]
      refine Ev.bind (hv b) (Ev.bind (hv2 b) (ev_pos rfl ?_))
      obtain ⟨s, e1, e2⟩ := formula_same x.f0.f0 x.f0.f1 x.f1 x.f2 x.f3.f0 x.f3.f1 x.f3.f2 b gx.1
      exact ev_eq e1 (ev_eq e2 (ev_pos rfl hR))
     refine step 0 (by omega) (step 1 (by omega) ?_)
     refine ev_succ (fun k => oculuslaw45_ReplyTells.l0.eq_2 ..) (ev_neg (by omega) ?_)
     refine Ev.bind (reply_view l hl1 gl2) (Ev.bind (ref_view l hl1 gl2) (ev_pos rfl ?_))
     refine Ev.bind (reply_rev n (by omega) (by omega)) (Ev.bind (ref_rev n (by omega) (by omega)) (ev_pos rfl ?_))
     refine Ev.bind (stats_is l hl1 gl) ?_
     refine Ev.bind (reply_stats l hl1 n (by omega) (by omega)) (Ev.bind (ref_stats l hl1 n (by omega) (by omega)) (ev_pos rfl ?_))
     exact Ev.bind ev_alive45 (ev_now _)
end Go.Proofs.YtokcllgekkhaaaaGreatDoor.P
