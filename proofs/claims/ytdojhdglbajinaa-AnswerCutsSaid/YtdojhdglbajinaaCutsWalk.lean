/- DERIVED. The walk of AnswerCuts. -/
import Derived.Test.YtdojhdglbajinaaReadsWalk
namespace Go.Proofs.Ytdojhdglbajinaa.CutsWalk
open Go.RowKit Go.Proofs.Ytdojhdglbajinaa.Mem Go.Proofs.Ytdojhdglbajinaa.Writer Go.Proofs.Ytdojhdglbajinaa.Reader Go.Proofs.Ytdojhdglbajinaa.Enc Go.Proofs.Ytdojhdglbajinaa.Dec Go.Proofs.Ytdojhdglbajinaa.Plain Go.Proofs.Ytdojhdglbajinaa.RefEnc Go.Proofs.Ytdojhdglbajinaa.WritesWalk Go.Proofs.Ytdojhdglbajinaa.ReadsWalk
set_option linter.unusedVariables false
set_option linter.unusedSimpArgs false

theorem encE (a : Ans) (E : List UInt8) (A : Option Addr) (c : Nat) (w : World) (he : enc a = E) (h : Rd w A a.body) (hk : a.kind.length ≤ 100000) (hl : a.body.length ≤ 100000) :
    Calls Try.prog 14 #[val a A c] w fun e w' => ∃ B c', e = .returned (.slice B E.length c') ∧ w'.ownsRow w.heap.size 5 1 (.slice B E.length c') E.length (E.map cellB) ∧ Below w.heap.size w w' := by
  have h0 := Enc.encode a A c w h hk hl
  rw [he] at h0
  exact h0
theorem decNo' (l : List UInt8) (n : Nat) (hn : l.length = n) (A : Option Addr) (c : Nat) (w : World) (h : Rd w A l) (hl : l.length ≤ 70368744177664) (ho : okAns l = false) :
    Calls Try.prog 15 #[.slice A n c] w fun e w' => ∃ B c', e = .returned (.tuple #[.agg #[.int .i64 0, .int .i64 0, .int .i64 0, .int .i64 0, .string { data := #[] }, .slice B 0 c'], .int .i64 2]) ∧ Below w.heap.size w w' := by
  subst hn; exact decNo l A c w h hl ho
theorem decYes (l : List UInt8) (n : Nat) (hn : l.length = n) (A : Option Addr) (c : Nat) (w : World) (h : Rd w A l) (hl : l.length ≤ 70368744177664) (ho : okAns l = true) :
    Calls Try.prog 15 #[.slice A n c] w fun e w' => ∃ x0 x1 x2 x3 x4 n5 B c', e = .returned (.tuple #[.agg #[.int .i64 x0, .int .i64 x1, .int .i64 x2, .int .i64 x3, .string x4, .slice B n5 c'], .int .i64 0]) ∧ Below w.heap.size w w' := by
  subst hn
  have h0 := Dec.decode A c l w h hl
  rw [show errAns l = 0 by unfold errAns; rw [ho]; rfl] at h0
  exact h0.mono fun e w' ⟨B, c', h1, _, h2⟩ => ⟨_, _, _, _, _, _, B, c', h1, h2⟩
theorem rd_own3 {w : World} {base : Nat} {A : Option Addr} {c : Nat} {E M : List UInt8} (h : w.ownsRow base 5 1 (.slice A (E.length + M.length) c) (E.length + M.length) (E.map cellB ++ M.map cellB)) : Rd w A (E ++ M) := by
  rw [← List.length_append, ← List.map_append] at h
  exact (rd_own h).2.2.2
theorem some_of {w : World} {base n c : Nat} {B : Option Addr} {ys : List Value} (h : w.ownsRow base 5 1 (.slice B n c) n ys) (hn : 0 < n) : B = none → c = 0 := by
  rintro rfl
  rcases h.2 with ⟨hv, h0⟩ | ⟨g, cap, cur, hv, _⟩
  · omega
  · cases hv
set_option maxHeartbeats 2000000 in
set_option maxRecDepth 100000 in
theorem law (a : Ans) (A : Option Addr) (c : Nat) (m : Int) (C : Option Addr) (d : Nat) (M : List UInt8) (w : World) (hb : Rd w A a.body) (hk : a.kind.length ≤ 140737488351232) (hl : a.body.length ≤ 140737488351232)
    (f1 : -9223372036854775808 ≤ a.first) (f2 : a.first < 9223372036854775808) (t1 : -9223372036854775808 ≤ a.total) (t2 : a.total < 9223372036854775808)
    (m0 : 0 ≤ m) (m1 : m ≤ 65535) (hm : Rd w C M) (hn : C = none → d = 0) :
    Calls Try.prog 7 #[val a A c, .int .u16 m, .slice C M.length d] w fun e w' => e = .returned (.bool true) ∧ Below w.heap.size w w' := by
  obtain ⟨i0, hi, hz0, hz1, hz2⟩ := info_parts info5
  have RA := Lib.hid hb
  have RM := Lib.hid hm
  have hM63 : M.length ≤ 9223372036854775807 := hm.1
  clear hb hm
  have HX : Hid ((w.alloc (.cells (cells a A c) 24)).heap[w.heap.size]? = some (.cells (cells a A c) 24 (0, 0))) := by
    show (w.heap.push _)[w.heap.size]? = _
    rw [Array.getElem?_push, if_pos rfl]
  by_cases hf : a.kind.length + a.body.length ≤ 600
  · have hk' : a.kind.length ≤ 100000 := by omega
    have hb' : a.body.length ≤ 100000 := by omega
    have hd : decide (a.kind.length + a.body.length ≤ 600) = true := decide_eq_true hf
    unfold val
    by_cases hm100 : M.length ≤ 100
    · obtain ⟨E, hE⟩ : ∃ E, E = enc a := ⟨_, rfl⟩
      have hEl : E.length = 29 + a.kind.length + a.body.length := by rw [hE]; exact enc_len a
      have hn29 : 29 ≤ E.length := by omega
      have hn700 : E.length ≤ 629 := by omega
      obtain ⟨k, hkk⟩ : ∃ k : Nat, (k : Int) = m % (E.length : Int) := ⟨(m % (E.length : Int)).toNat, by have := Int.emod_nonneg m (show (E.length : Int) ≠ 0 by omega); omega⟩
      have hkn : k < E.length := by have := Int.emod_lt_of_pos m (show (0 : Int) < (E.length : Int) by omega); omega
      have hrem : m % (E.length : Int) = (k : Int) := hkk.symm
      have HEe : Hid (enc a = E) := hE.symm
      have HC : Hid (okAns (E.take k) = false) := cut_enc a (E.take k) (E.drop k) (by omega) (by omega) f1 f2 t1 t2 (by rw [List.take_append_drop, hE]) (by rw [List.length_drop]; omega)
      have HJ : Hid (okAns (E ++ M) = (M.length == 0)) := by rw [hE]; exact ok_enc a M (by omega) (by omega) f1 f2 t1 t2
      obtain ⟨P, hP⟩ : ∃ P, P = E.take k := ⟨_, rfl⟩
      have HP := Lib.hid hP
      rw [← hP] at HC
      have hPl : P.length ≤ 629 := by rw [hP, List.length_take]; omega
      have hPk : P.length = k := by rw [hP, List.length_take]; omega
      clear hE hEl hP hkk
      by_cases hpos : 0 < M.length
      · have HNO : Hid (okAns (E ++ M) = false) := by show okAns (E ++ M) = false; rw [HJ.out]; simp; intro h0; rw [h0] at hpos; simp at hpos
        go_enter Try.func7, Try.ntmps7
        go_wp2_with fail
        refine (Awake.awake _).mono ?_; rintro e w1 ⟨rfl, h1⟩
        have HB := Lib.hid (step2 (below1 w _) (by simp) h1); have HB1 := Lib.hid (blk_on HX.out h1); obtain ⟨p0, p1, p2, p3, p4, p5⟩ := Dec.pfacts HB1.out; clear h1 HX
        go_wp2_with fail
        refine (Same.few a A c _ hk hl).mono ?_; rw [hd]; rintro e w2 ⟨rfl, h1⟩
        replace HB := Lib.hid (step2 HB.out HB.out.size h1); replace HB1 := Lib.hid (blk_on HB1.out h1); clear p0 p1 p2 p3 p4 p5; obtain ⟨p0, p1, p2, p3, p4, p5⟩ := Dec.pfacts HB1.out; clear h1
        go_wp2_with fail
        refine (encE a E A c _ HEe.out (RA.out.below HB.out) hk' hb').mono ?_; rintro e w3 ⟨B1, c1, rfl, h0, h1⟩
        replace HB := Lib.hid (step2 HB.out HB.out.size h1); have OW := Lib.hid h0; have hkc : k ≤ c1 := by have := (rd_own h0).2.1; omega
        clear h0 h1 p0 p1 p2 p3 p4 p5 HB1
        go_wp2_with fail
        refine (decNo' P k hPk B1 c1 _ (by rw [HP.out]; exact (rd_own OW.out).2.2.2.take k) (by omega) HC.out).mono ?_; rintro e w4 ⟨B2, c2, rfl, h1⟩
        replace OW := Lib.hid (own_below OW.out h1); replace HB := Lib.hid (step2 HB.out HB.out.size h1); have HW4 := Lib.hid HB.out.size; clear h1
        have HRE : Hid (Rd ((w4.alloc (.cells #[.int .i64 0, .int .i64 0, .int .i64 0, .int .i64 0, .string { data := #[] }, .slice B2 0 c2] 24)).alloc (.cells #[] 5)) B1 E) := (rd_own OW.out).2.2.2.below (((Below.refl _ _).alloc (Nat.le_refl _) _).alloc (by simp) _)
        have HMD : Hid (((w4.alloc (.cells #[.int .i64 0, .int .i64 0, .int .i64 0, .int .i64 0, .string { data := #[] }, .slice B2 0 c2] 24)).alloc (.cells #[] 5)).ownsRow (w4.heap.size + 1) 5 1 (.slice (some ⟨w4.heap.size + 1, 0, none⟩) 0 0) 0 (([] : List UInt8).map cellB)) := by
          have := World.ownsRow_made (base := w4.heap.size + 1) (e := 5) (size := 1) (w4.alloc (.cells #[.int .i64 0, .int .i64 0, .int .i64 0, .int .i64 0, .string { data := #[] }, .slice B2 0 c2] 24)) #[] 0 (by simp) (Nat.zero_le _) (by simp)
          show World.ownsRow _ _ _ _ _ _ _
          simpa using this
        go_wp2_with (at_builtin; refine wpList_append_rd (P := Try.prog) rfl (.tmp 42) (.tmp 43) 22 5 rfl (w4.heap.size + 1) Try.underlying22 i0 hi hz0 hz1 hz2 (.slice (some ⟨w4.heap.size + 1, 0, none⟩) 0 0) 0 [] rfl HMD.out B1 c1 E rfl (some_of OW.out (by omega)) HRE.out (by omega) (by simp) ?_)
        intro B3 c3 w5 hown hgrow
        have hbl : Below (w4.heap.size + 1) (w4.alloc (.cells #[.int .i64 0, .int .i64 0, .int .i64 0, .int .i64 0, .string { data := #[] }, .slice B2 0 c2] 24)) w5 := by
          have h := (((Below.refl (w4.heap.size + 1) (w4.alloc (.cells #[.int .i64 0, .int .i64 0, .int .i64 0, .int .i64 0, .string { data := #[] }, .slice B2 0 c2] 24))).alloc (by simp) (.cells #[] 5))).grown hgrow (by simp) (by intro k hk; simp [Value.ownBlock] at hk; omega)
          exact h
        have HB8 : Hid (w5.heap[w4.heap.size]? = some (.cells #[.int .i64 0, .int .i64 0, .int .i64 0, .int .i64 0, .string { data := #[] }, .slice B2 0 c2] 24 (0, 0))) := by
          show _ = _
          rw [hbl.block _ (by omega)]
          show (w4.heap.push _)[w4.heap.size]? = _
          rw [Array.getElem?_push, if_pos rfl]
        have hs5 : w4.heap.size + 1 ≤ w5.heap.size := by have := hbl.size; simpa using this
        replace HB : Hid (Below w.heap.size w w5) := (HB.out.alloc HB.out.size _).trans (hbl.mono (by have := HB.out.size; omega))
        have O2 := Lib.hid hown
        have HS5 := Lib.hid hs5
        replace RM : Hid (Rd w5 C M) := RM.out.below HB.out
        clear hown hgrow hbl OW HRE HMD hs5
        go_wp2_with (at_builtin; refine wpList_append_rd (P := Try.prog) rfl (.tmp 44) (.tmp 45) 22 5 rfl (w4.heap.size + 1) Try.underlying22 i0 hi hz0 hz1 hz2 (.slice B3 E.length c3) E.length E rfl O2.out C d M rfl hn RM.out (by omega) HS5.out ?_)
        intro B4 c4 w6 hown hgrow
        have hbl : Below (w4.heap.size + 1) w5 w6 := (Below.refl _ _).grown hgrow HS5.out (fun q hq => (O2.out.lt q hq).1)
        replace HB8 := Lib.hid ((hbl.block _ (by omega)).trans HB8.out)
        have hws : w.heap.size ≤ w4.heap.size + 1 := Nat.le_trans HW4.out (Nat.le_succ _)
        replace HB := Lib.hid (HB.out.trans (hbl.mono hws))
        have RF : Hid (Rd w6 B4 (E ++ M)) := rd_own3 hown
        clear hown hgrow hbl O2 HS5
        go_wp2_with fail
        refine (decNo' (E ++ M) (E.length + M.length) (by simp) B4 c4 _ RF.out (by rw [List.length_append]; omega) HNO.out).mono ?_; rintro e w7 ⟨B5, c5, rfl, h1⟩
        replace HB := Lib.hid (step2 HB.out HB.out.size h1)
        have HB8' := Lib.hid (blk_on HB8.out h1)
        have qf := fun X => blk_on HB8'.out (below1 w7 X); have q0 := fun X => (Dec.pfacts (qf X)).1; have q1 := fun X => (Dec.pfacts (qf X)).2.1; have q2 := fun X => (Dec.pfacts (qf X)).2.2.1; have q3 := fun X => (Dec.pfacts (qf X)).2.2.2.1; have q4 := fun X => (Dec.pfacts (qf X)).2.2.2.2.1; have q5 := fun X => (Dec.pfacts (qf X)).2.2.2.2.2
        clear qf h1 HB8 HB8'
        go_wp2_with (go_at_call 18; refine (same0 _ _ _ _ _).mono ?_; rintro e w8 ⟨rfl, h1⟩; replace HB := Lib.hid (step2 (HB.out.alloc HB.out.size _) (HB.out.alloc HB.out.size _).size h1); clear h1)
        go_ret
        exact ⟨rfl, HB.out⟩
      · have HNO : Hid (okAns (E ++ M) = true) := by show okAns (E ++ M) = true; rw [HJ.out]; simp; exact List.eq_nil_of_length_eq_zero (by omega)
        go_enter Try.func7, Try.ntmps7
        go_wp2_with fail
        refine (Awake.awake _).mono ?_; rintro e w1 ⟨rfl, h1⟩
        have HB := Lib.hid (step2 (below1 w _) (by simp) h1); have HB1 := Lib.hid (blk_on HX.out h1); obtain ⟨p0, p1, p2, p3, p4, p5⟩ := Dec.pfacts HB1.out; clear h1 HX
        go_wp2_with fail
        refine (Same.few a A c _ hk hl).mono ?_; rw [hd]; rintro e w2 ⟨rfl, h1⟩
        replace HB := Lib.hid (step2 HB.out HB.out.size h1); replace HB1 := Lib.hid (blk_on HB1.out h1); clear p0 p1 p2 p3 p4 p5; obtain ⟨p0, p1, p2, p3, p4, p5⟩ := Dec.pfacts HB1.out; clear h1
        go_wp2_with fail
        refine (encE a E A c _ HEe.out (RA.out.below HB.out) hk' hb').mono ?_; rintro e w3 ⟨B1, c1, rfl, h0, h1⟩
        replace HB := Lib.hid (step2 HB.out HB.out.size h1); have OW := Lib.hid h0; have hkc : k ≤ c1 := by have := (rd_own h0).2.1; omega
        clear h0 h1 p0 p1 p2 p3 p4 p5 HB1
        go_wp2_with fail
        refine (decNo' P k hPk B1 c1 _ (by rw [HP.out]; exact (rd_own OW.out).2.2.2.take k) (by omega) HC.out).mono ?_; rintro e w4 ⟨B2, c2, rfl, h1⟩
        replace OW := Lib.hid (own_below OW.out h1); replace HB := Lib.hid (step2 HB.out HB.out.size h1); have HW4 := Lib.hid HB.out.size; clear h1
        have HRE : Hid (Rd ((w4.alloc (.cells #[.int .i64 0, .int .i64 0, .int .i64 0, .int .i64 0, .string { data := #[] }, .slice B2 0 c2] 24)).alloc (.cells #[] 5)) B1 E) := (rd_own OW.out).2.2.2.below (((Below.refl _ _).alloc (Nat.le_refl _) _).alloc (by simp) _)
        have HMD : Hid (((w4.alloc (.cells #[.int .i64 0, .int .i64 0, .int .i64 0, .int .i64 0, .string { data := #[] }, .slice B2 0 c2] 24)).alloc (.cells #[] 5)).ownsRow (w4.heap.size + 1) 5 1 (.slice (some ⟨w4.heap.size + 1, 0, none⟩) 0 0) 0 (([] : List UInt8).map cellB)) := by
          have := World.ownsRow_made (base := w4.heap.size + 1) (e := 5) (size := 1) (w4.alloc (.cells #[.int .i64 0, .int .i64 0, .int .i64 0, .int .i64 0, .string { data := #[] }, .slice B2 0 c2] 24)) #[] 0 (by simp) (Nat.zero_le _) (by simp)
          show World.ownsRow _ _ _ _ _ _ _
          simpa using this
        go_wp2_with (at_builtin; refine wpList_append_rd (P := Try.prog) rfl (.tmp 42) (.tmp 43) 22 5 rfl (w4.heap.size + 1) Try.underlying22 i0 hi hz0 hz1 hz2 (.slice (some ⟨w4.heap.size + 1, 0, none⟩) 0 0) 0 [] rfl HMD.out B1 c1 E rfl (some_of OW.out (by omega)) HRE.out (by omega) (by simp) ?_)
        intro B3 c3 w5 hown hgrow
        have hbl : Below (w4.heap.size + 1) (w4.alloc (.cells #[.int .i64 0, .int .i64 0, .int .i64 0, .int .i64 0, .string { data := #[] }, .slice B2 0 c2] 24)) w5 := by
          have h := (((Below.refl (w4.heap.size + 1) (w4.alloc (.cells #[.int .i64 0, .int .i64 0, .int .i64 0, .int .i64 0, .string { data := #[] }, .slice B2 0 c2] 24))).alloc (by simp) (.cells #[] 5))).grown hgrow (by simp) (by intro k hk; simp [Value.ownBlock] at hk; omega)
          exact h
        have HB8 : Hid (w5.heap[w4.heap.size]? = some (.cells #[.int .i64 0, .int .i64 0, .int .i64 0, .int .i64 0, .string { data := #[] }, .slice B2 0 c2] 24 (0, 0))) := by
          show _ = _
          rw [hbl.block _ (by omega)]
          show (w4.heap.push _)[w4.heap.size]? = _
          rw [Array.getElem?_push, if_pos rfl]
        have hs5 : w4.heap.size + 1 ≤ w5.heap.size := by have := hbl.size; simpa using this
        replace HB : Hid (Below w.heap.size w w5) := (HB.out.alloc HB.out.size _).trans (hbl.mono (by have := HB.out.size; omega))
        have O2 := Lib.hid hown
        have HS5 := Lib.hid hs5
        replace RM : Hid (Rd w5 C M) := RM.out.below HB.out
        clear hown hgrow hbl OW HRE HMD hs5
        go_wp2_with (at_builtin; refine wpList_append_rd (P := Try.prog) rfl (.tmp 44) (.tmp 45) 22 5 rfl (w4.heap.size + 1) Try.underlying22 i0 hi hz0 hz1 hz2 (.slice B3 E.length c3) E.length E rfl O2.out C d M rfl hn RM.out (by omega) HS5.out ?_)
        intro B4 c4 w6 hown hgrow
        have hbl : Below (w4.heap.size + 1) w5 w6 := (Below.refl _ _).grown hgrow HS5.out (fun q hq => (O2.out.lt q hq).1)
        replace HB8 := Lib.hid ((hbl.block _ (by omega)).trans HB8.out)
        have hws : w.heap.size ≤ w4.heap.size + 1 := Nat.le_trans HW4.out (Nat.le_succ _)
        replace HB := Lib.hid (HB.out.trans (hbl.mono hws))
        have RF : Hid (Rd w6 B4 (E ++ M)) := rd_own3 hown
        clear hown hgrow hbl O2 HS5
        go_wp2_with fail
        refine (decYes (E ++ M) (E.length + M.length) (by simp) B4 c4 _ RF.out (by rw [List.length_append]; omega) HNO.out).mono ?_; rintro e w7 ⟨x0, x1, x2, x3, x4, n5, B5, c5, rfl, h1⟩
        replace HB := Lib.hid (step2 HB.out HB.out.size h1)
        have HB8' := Lib.hid (blk_on HB8.out h1)
        have qf := fun X => blk_on HB8'.out (below1 w7 X); have q0 := fun X => (Dec.pfacts (qf X)).1; have q1 := fun X => (Dec.pfacts (qf X)).2.1; have q2 := fun X => (Dec.pfacts (qf X)).2.2.1; have q3 := fun X => (Dec.pfacts (qf X)).2.2.2.1; have q4 := fun X => (Dec.pfacts (qf X)).2.2.2.2.1; have q5 := fun X => (Dec.pfacts (qf X)).2.2.2.2.2
        clear qf h1 HB8 HB8'
        go_wp2_with (go_at_call 18; refine (same0 _ _ _ _ _).mono ?_; rintro e w8 ⟨rfl, h1⟩; replace HB := Lib.hid (step2 (HB.out.alloc HB.out.size _) (HB.out.alloc HB.out.size _).size h1); clear h1)
        go_ret
        exact ⟨rfl, HB.out⟩
    · have tg : Hid True := trivial
      go_enter Try.func7, Try.ntmps7
      go_wp2_with (first
        | (clear tg; go_at_call 12; refine (Awake.awake _).mono ?_; rintro e w1 ⟨rfl, h1⟩; have HB := Lib.hid (step2 (below1 w _) (by simp) h1); have HB1 := Lib.hid (blk_on HX.out h1); obtain ⟨p0, p1, p2, p3, p4, p5⟩ := Dec.pfacts HB1.out; clear h1 HX)
        | (go_at_call 13; refine (Same.few a A c _ hk hl).mono ?_; rw [hd]; rintro e w2 ⟨rfl, h1⟩; replace HB := Lib.hid (step2 HB.out HB.out.size h1); clear h1)
        | (go_at_call 12; refine (Awake.awake _).mono ?_; rintro e w1 ⟨rfl, h1⟩; replace HB := Lib.hid (step2 HB.out HB.out.size h1); clear h1))
      go_ret
      exact ⟨rfl, HB.out⟩
  · have hd : decide (a.kind.length + a.body.length ≤ 600) = false := decide_eq_false hf
    unfold val
    have tg : Hid True := trivial
    go_enter Try.func7, Try.ntmps7
    go_wp2_with (first
      | (clear tg; go_at_call 12; refine (Awake.awake _).mono ?_; rintro e w1 ⟨rfl, h1⟩; have HB := Lib.hid (step2 (below1 w _) (by simp) h1); have HB1 := Lib.hid (blk_on HX.out h1); obtain ⟨p0, p1, p2, p3, p4, p5⟩ := Dec.pfacts HB1.out; clear h1 HX)
      | (go_at_call 13; refine (Same.few a A c _ hk hl).mono ?_; rw [hd]; rintro e w2 ⟨rfl, h1⟩; replace HB := Lib.hid (step2 HB.out HB.out.size h1); clear h1)
      | (go_at_call 12; refine (Awake.awake _).mono ?_; rintro e w1 ⟨rfl, h1⟩; replace HB := Lib.hid (step2 HB.out HB.out.size h1); clear h1))
    go_ret
    exact ⟨rfl, HB.out⟩
end Go.Proofs.Ytdojhdglbajinaa.CutsWalk
