/- DERIVED. The document's reader: Decode. -/
import Derived.Test.YtdojhdglbajinaaRefT
namespace Go.Proofs.Ytdojhdglbajinaa.RefD
open Go.RowKit Go.Proofs.Ytdojhdglbajinaa.Mem Go.Proofs.Ytdojhdglbajinaa.Writer Go.Proofs.Ytdojhdglbajinaa.Reader Go.Proofs.Ytdojhdglbajinaa.Enc Go.Proofs.Ytdojhdglbajinaa.Dec Go.Proofs.Ytdojhdglbajinaa.Plain Go.Proofs.Ytdojhdglbajinaa.RefEnc Go.Proofs.Ytdojhdglbajinaa.RefT
set_option linter.unusedVariables false
set_option linter.unusedSimpArgs false

def RR (l : List UInt8) : Nat → List UInt8 | 0 => l | 1 => R1 l | 2 => R2 l | 3 => R3 l | _ => R4 l
def DD (l : List UInt8) : Nat → Bool | 0 => false | 1 => D1 l | 2 => D2 l | 3 => D3 l | _ => D4 l
def sz : Nat → Nat | 0 => 1 | 1 => 4 | _ => 8
def vv (l : List UInt8) (k : Nat) : Nat := num (got (RR l k) (DD l k) (sz k))
theorem sz_le (k : Nat) : sz k ≤ 8 := by unfold sz; split <;> omega
theorem RR_succ (l : List UInt8) (k : Nat) (h : k < 4) : RR l (k + 1) = rest (RR l k) (DD l k) (sz k) ∧ DD l (k + 1) = isBad (RR l k) (DD l k) (sz k) := by
  match k, h with
  | 0, _ => exact ⟨by show R1 l = _; rw [R1]; rfl, by show D1 l = _; rw [D1]; rfl⟩
  | 1, _ => exact ⟨by show R2 l = _; rw [R2]; rfl, by show D2 l = _; rw [D2]; rfl⟩
  | 2, _ => exact ⟨by show R3 l = _; rw [R3]; rfl, by show D3 l = _; rw [D3]; rfl⟩
  | 3, _ => exact ⟨by show R4 l = _; rw [R4]; rfl, by show D4 l = _; rw [D4]; rfl⟩
theorem RR_len (l : List UInt8) : ∀ k, k ≤ 4 → (RR l k).length ≤ l.length := by
  intro k
  induction k with
  | zero => intro _; exact Nat.le_refl _
  | succ k ih =>
    intro h
    rw [(RR_succ l k (by omega)).1]
    exact Nat.le_trans (rest_len _ _ _) (ih (by omega))
theorem bad_true (l : List UInt8) (n : Nat) : isBad l true n = true := by simp [isBad]
theorem DD_up (l : List UInt8) (k : Nat) (h : k ≤ 4) (hb : DD l k = true) : D4 l = true := by
  have step : ∀ j, j < 4 → DD l j = true → DD l (j + 1) = true := fun j hj hd => by rw [(RR_succ l j hj).2, hd, bad_true]
  match k, h with
  | 0, _ => cases hb
  | 1, _ => exact step 3 (by omega) (step 2 (by omega) (step 1 (by omega) hb))
  | 2, _ => exact step 3 (by omega) (step 2 (by omega) hb)
  | 3, _ => exact step 3 (by omega) hb
  | 4, _ => exact hb
theorem D5_of {l : List UInt8} (h : D4 l = true) : D5 l = true := by rw [D5, h]; unfold txtBad; rw [bad_true]; exact bad_true _ _
theorem D6_of {l : List UInt8} (h : D5 l = true) : D6 l = true := by rw [D6, h]; unfold txtBad; rw [bad_true]; exact bad_true _ _
theorem no_of {l : List UInt8} (h : D6 l = true) : okAns l = false := by unfold okAns; rw [h]; rfl

theorem takeOk (l : List UInt8) (k : Nat) (w : World) (hk : k < 4) (hl : l.length ≤ 70368744177664) (hd : DD l k = false) (hb : DD l (k + 1) = false) :
    Calls Try.prog 22 #[.string (str (RR l k)), .int .i64 (sz k : Int)] w fun e w' => e = .returned (.tuple #[.int .u64 (vv l k : Int), .string (str (RR l (k + 1))), .bool true]) ∧ ∃ q, w' = w.drewN q := by
  have h := RefT.take (RR l k) (sz k) w (sz_le k) (Nat.le_trans (RR_len l k (by omega)) hl)
  have h2 := (RR_succ l k hk).2
  have h1 := (RR_succ l k hk).1
  rw [hd] at h1 h2
  rw [← h2, hb] at h
  have h3 : RefT.left (RR l k) (sz k) = RR l (k + 1) := by unfold RefT.left; rw [h1, rest, ← h2, hb]; rfl
  have h4 : num (got (RR l k) false (sz k)) = vv l k := by unfold vv; rw [hd]
  rw [h3, h4] at h
  exact h
theorem takeNo (l : List UInt8) (k : Nat) (w : World) (hk : k < 4) (hl : l.length ≤ 70368744177664) (hd : DD l k = false) (hb : DD l (k + 1) = true) :
    Calls Try.prog 22 #[.string (str (RR l k)), .int .i64 (sz k : Int)] w fun e w' => e = .returned (.tuple #[.int .u64 0, .string (str []), .bool false]) ∧ ∃ q, w' = w.drewN q := by
  have h := RefT.take (RR l k) (sz k) w (sz_le k) (Nat.le_trans (RR_len l k (by omega)) hl)
  have h2 := (RR_succ l k hk).2
  rw [hd] at h2
  rw [← h2, hb] at h
  have h3 : RefT.left (RR l k) (sz k) = [] := by unfold RefT.left; rw [← h2, hb]; rfl
  have h4 : got (RR l k) false (sz k) = [] := by unfold got; rw [← h2, hb]; rfl
  rw [h3, h4] at h
  exact h
theorem textOk (l : List UInt8) (w : World) (hl : l.length ≤ 70368744177664) (t r : List UInt8) (ht : txt l false = t) (hr : txtRest l false = r) (hb : txtBad l false = false) :
    Calls Try.prog 26 #[.string (str l)] w fun e w' => e = .returned (.tuple #[.string (str t), .string (str r), .bool true]) ∧ ∃ q, w' = w.drewN q := by
  have h := RefT.text l w hl
  rw [hb, ht, show tleft l = r by unfold tleft; rw [hb, hr]; rfl] at h
  exact h
theorem textNo (l : List UInt8) (w : World) (hl : l.length ≤ 70368744177664) (hb : txtBad l false = true) :
    Calls Try.prog 26 #[.string (str l)] w fun e w' => ∃ t, e = .returned (.tuple #[.string t, .string (str []), .bool false]) ∧ ∃ q, w' = w.drewN q := by
  have h := RefT.text l w hl
  rw [hb, show tleft l = [] by unfold tleft; rw [hb]; rfl] at h
  exact h.mono fun e w' ⟨h1, h2⟩ => ⟨_, h1, h2⟩

def rz : Array Value := #[.int .i64 0, .int .i64 0, .int .i64 0, .int .i64 0, .string { data := #[] }, .string { data := #[] }]
def ar (l : List UInt8) (k : Nat) : Array Value := #[.int .u64 (if 0 < k then vv l 0 else 0 : Nat), .int .u64 (if 1 < k then vv l 1 else 0 : Nat), .int .u64 (if 2 < k then vv l 2 else 0 : Nat), .int .u64 (if 3 < k then vv l 3 else 0 : Nat)]
theorem ar_set (l : List UInt8) (k : Nat) (h : k < 4) : (ar l k).setIfInBounds k (.int .u64 (vv l k : Int)) = ar l (k + 1) := by
  match k, h with
  | 0, _ => simp [ar]
  | 1, _ => simp [ar]
  | 2, _ => simp [ar]
  | 3, _ => simp [ar]
theorem ar_at (l : List UInt8) (k : Nat) (h : k < 4) : ∃ v, (ar l k)[k]? = some v := by
  match k, h with
  | 0, _ => exact ⟨_, rfl⟩
  | 1, _ => exact ⟨_, rfl⟩
  | 2, _ => exact ⟨_, rfl⟩
  | 3, _ => exact ⟨_, rfl⟩
def szs : Array Value := #[.int .i64 1, .int .i64 4, .int .i64 8, .int .i64 8]
theorem szs_at (k : Nat) (h : k < 4) : szs[k]? = some (.int .i64 (sz k : Int)) := by
  match k, h with
  | 0, _ => rfl
  | 1, _ => rfl
  | 2, _ => rfl
  | 3, _ => rfl
/-- Between two rounds. -/
structure LP (w wr : World) (l : List UInt8) (k : Nat) : Prop where
  res : wr.heap[w.heap.size]? = some (.cells rz 33 (0, 0))
  arr : wr.heap[w.heap.size + 1]? = some (.cells (ar l k) 92 (0, 0))
  szs : wr.heap[w.heap.size + 1 + 1]? = some (.cells szs 3 (0, 0))
  below : Below w.heap.size w wr
  good : DD l k = false
theorem LP.start (w : World) (l : List UInt8) : LP w (((w.alloc (.cells rz 33)).alloc (.cells #[.int .u64 0, .int .u64 0, .int .u64 0, .int .u64 0] 92)).alloc (.cells #[.int .i64 1, .int .i64 4, .int .i64 8, .int .i64 8] 3)) l 0 := by
  refine ⟨?_, ?_, ?_, (((Below.refl _ _).alloc (Nat.le_refl _) _).alloc (by simp) _).alloc (by simp; omega) _, rfl⟩
  · show (((w.heap.push _).push _).push _)[w.heap.size]? = _
    rw [Array.getElem?_push, if_neg (by simp; omega), Array.getElem?_push, if_neg (by simp), Array.getElem?_push, if_pos rfl]
  · show (((w.heap.push _).push _).push _)[w.heap.size + 1]? = _
    rw [Array.getElem?_push, if_neg (by simp), Array.getElem?_push, if_pos (by simp)]; rfl
  · show (((w.heap.push _).push _).push _)[w.heap.size + 1 + 1]? = _
    rw [Array.getElem?_push, if_pos (by simp)]; rfl
theorem LP.step {w wr : World} {l : List UInt8} {k : Nat} (h : LP w wr l k) (hk : k < 4) (hb : DD l (k + 1) = false) (q : Nat) : LP w ((wr.drewN q).setCell ⟨w.heap.size + 1, k, none⟩ (.int .u64 (vv l k : Int))) l (k + 1) := by
  refine ⟨?_, ?_, ?_, (Same.dn_below h.below q).setCell (by show _ ≤ w.heap.size + 1; omega) _, hb⟩
  · rw [Below.heap_setCell _ _ _ _ (by show w.heap.size ≠ w.heap.size + 1; omega)]; exact h.res
  · have h2 := Joins.block_setCell (w := wr.drewN q) (i := k) h.arr (.int .u64 (vv l k : Int))
    rw [ar_set l k hk] at h2
    exact h2
  · rw [Below.heap_setCell _ _ _ _ (by show w.heap.size + 1 + 1 ≠ w.heap.size + 1; omega)]; exact h.szs
theorem rzfacts {w : World} {b : Nat} (h : w.heap[b]? = some (.cells rz 33 (0, 0))) : (w.cell? ⟨b, 0, none⟩ = some (.int .i64 0) ∧ w.cell? ⟨b, 1, none⟩ = some (.int .i64 0) ∧ w.cell? ⟨b, 2, none⟩ = some (.int .i64 0) ∧ w.cell? ⟨b, 3, none⟩ = some (.int .i64 0) ∧ w.cell? ⟨b, 4, none⟩ = some (.string { data := #[] }) ∧ w.cell? ⟨b, 5, none⟩ = some (.string { data := #[] })) ∧ w.frozen? ⟨b, 0, none⟩ = false ∧ w.frozen? ⟨b, 1, none⟩ = false ∧ w.frozen? ⟨b, 2, none⟩ = false ∧ w.frozen? ⟨b, 3, none⟩ = false ∧ w.frozen? ⟨b, 4, none⟩ = false ∧ w.frozen? ⟨b, 5, none⟩ = false := by
  refine ⟨⟨?_, ?_, ?_, ?_, ?_, ?_⟩, ?_, ?_, ?_, ?_, ?_, ?_⟩
  iterate 6 (simp [World.cell?, h, rz])
  iterate 6 (exact Joins.unfrozen_of_block h _)
theorem arfacts {w : World} {b : Nat} {l : List UInt8} (h : w.heap[b]? = some (.cells (ar l 4) 92 (0, 0))) : w.cell? ⟨b, 0, none⟩ = some (.int .u64 (sortR l : Int)) ∧ w.cell? ⟨b, 1, none⟩ = some (.int .u64 (statR l : Int)) ∧ w.cell? ⟨b, 2, none⟩ = some (.int .u64 (vv l 2 : Int)) ∧ w.cell? ⟨b, 3, none⟩ = some (.int .u64 (vv l 3 : Int)) := by
  have e0 : vv l 0 = sortR l := by rw [sortR]; rfl
  have e1 : vv l 1 = statR l := by rw [statR]; rfl
  refine ⟨?_, ?_, ?_, ?_⟩ <;> simp [World.cell?, h, ar, e0, e1]
set_option maxHeartbeats 4000000 in
set_option maxRecDepth 100000 in
theorem decode (l : List UInt8) (w : World) (hl : l.length ≤ 70368744177664) :
    Calls Try.prog 19 #[.string (str l)] w fun e w' => e = .returned (.tuple #[rval (resAns l), .bool (okAns l)]) ∧ Below w.heap.size w w' := by
  have HST := Lib.hid (LP.start w l)
  have x0 : IntKind.i64.wrap (sortR l : Int) = (sortR l : Int) := by have := sortR_lt l; exact IntWalk.i64_in _ (by omega)
  have x1 : IntKind.i64.wrap (statR l : Int) = (statR l : Int) := by have := statR_lt l; exact IntWalk.i64_in _ (by omega)
  have x2 : IntKind.i64.wrap (vv l 2 : Int) = firstR l := by rw [firstR]; rfl
  have x3 : IntKind.i64.wrap (vv l 3 : Int) = totalR l := by rw [totalR]; rfl
  go_enter Try.func19, Try.ntmps19
  go_wp2
  go_loopw [0, 5, 11] (fun b ok i wr => ∃ k : Nat, k ≤ 4 ∧ i = .int .i64 k ∧ b = .string (str (RR l k)) ∧ ok = .bool true ∧ Hid (LP w wr l k)) (fun _ _ i _ => 4 - (intOf i).toNat)
  case atStart => exact ⟨0, by omega, rfl, rfl, rfl, HST.out⟩
  case round =>
    obtain ⟨k, hk, rfl, rfl, rfl, HL⟩ := hrel
    clear HST
    obtain ⟨⟨z0, z1, z2, z3, z4, z5⟩, f0, f1, f2, f3, f4, f5⟩ := rzfacts HL.out.res
    by_cases hlt : k < 4
    · have hcs : wr.cell? ⟨w.heap.size + 1 + 1, k, none⟩ = some (.int .i64 (sz k : Int)) := by
        simp only [World.cell?, HL.out.szs]; exact szs_at k hlt
      obtain ⟨av, hav⟩ := ar_at l k hlt
      have hca : wr.cell? ⟨w.heap.size + 1, k, none⟩ = some av := by
        simp only [World.cell?, HL.out.arr]; exact hav
      have hfa : wr.frozen? ⟨w.heap.size + 1, k, none⟩ = false := Joins.unfrozen_of_block HL.out.arr k
      clear hav
      cases hb : DD l (k + 1) with
      | false =>
        have HN := Lib.hid (fun q => HL.out.step hlt hb q)
        have HT := Lib.hid (fun w => takeOk l k w hlt hl HL.out.good hb)
        clear hb z0 z1 z2 z3 z4 z5 f0 f1 f2 f3 f4 f5
        go_wp2_with (go_at_call 22; refine (HT.out _).mono ?_; rintro e w1 ⟨rfl, q, rfl⟩)
        go_roundw
        case rel => exact ⟨k + 1, by omega, by go_num, rfl, rfl, HN.out q⟩
        case measure => simp [intOf]; omega
      | true =>
        have HT := Lib.hid (fun w => takeNo l k w hlt hl HL.out.good hb)
        have HO : Hid (okAns l = false) := no_of (D6_of (D5_of (DD_up l (k + 1) (by omega) hb)))
        have HBX : Hid (∀ q, ((wr.drewN q).setCell ⟨w.heap.size + 1, k, none⟩ (.int .u64 0)).heap[w.heap.size]? = some (.cells rz 33 (0, 0))) := fun q => by
          rw [Below.heap_setCell _ _ _ _ (by show w.heap.size ≠ w.heap.size + 1; omega)]; exact HL.out.res
        have HBB : Hid (∀ q, Below w.heap.size w ((wr.drewN q).setCell ⟨w.heap.size + 1, k, none⟩ (.int .u64 0))) := fun q => (Same.dn_below HL.out.below q).setCell (by show _ ≤ w.heap.size + 1; omega) _
        clear hb
        go_wp2_with (go_at_call 22; refine (HT.out _).mono ?_; rintro e w1 ⟨rfl, q, rfl⟩)
        refine bodyPost_ret (results_ct rfl _ _ w.heap.size 33 _ (0, 0) _ (by rfl) (set6 (w := ((wr.drewN q).setCell ⟨w.heap.size + 1, k, none⟩ (.int .u64 0))) _ _ _ _ _ _ (HBX.out q)).1 Try.underlying33 rfl Of.info33) rfl ?_
        exact ⟨by unfold resAns; rw [HO.out]; rfl, (HBB.out q).trans ((set6 (w := ((wr.drewN q).setCell ⟨w.heap.size + 1, k, none⟩ (.int .u64 0))) _ _ _ _ _ _ (HBX.out q)).2.below.mono (Nat.le_refl _))⟩
    · obtain rfl : k = 4 := by omega
      obtain ⟨q0, q1, q2, q3⟩ := arfacts HL.out.arr
      have h4 : D4 l = false := HL.out.good
      have hr5 : txtRest (R4 l) false = R5 l := by rw [R5, h4]
      have hd5 : txtBad (R4 l) false = D5 l := by rw [D5, h4]
      have hx5 : txt (R4 l) false = kindR l := by rw [kindR, h4]
      have HL4 : Hid ((R4 l).length ≤ 70368744177664) := Nat.le_trans (RR_len l 4 (by omega)) hl
      cases h5 : D5 l with
      | true =>
        have HT := Lib.hid (fun w => textNo (R4 l) w HL4.out (by rw [hd5, h5]))
        have HO : Hid (okAns l = false) := no_of (D6_of h5)
        clear h4 hr5 hd5 hx5 h5
        go_wp2_with (go_at_call 26; refine (HT.out _).mono ?_; rintro e w1 ⟨t, rfl, q, rfl⟩)
        refine bodyPost_ret (results_ct rfl _ _ w.heap.size 33 _ (0, 0) _ (by rfl) (set6 (w := (wr.drewN q)) _ _ _ _ _ _ HL.out.res).1 Try.underlying33 rfl Of.info33) rfl ?_
        exact ⟨by unfold resAns; rw [HO.out]; rfl, (Same.dn_below HL.out.below _).trans ((set6 (w := (wr.drewN q)) _ _ _ _ _ _ HL.out.res).2.below.mono (Nat.le_refl _))⟩
      | false =>
        have HT := Lib.hid (fun w => textOk (R4 l) w HL4.out _ _ hx5 hr5 (by rw [hd5, h5]))
        have hr6 : txtRest (R5 l) false = R6 l := by rw [R6, h5]
        have hd6 : txtBad (R5 l) false = D6 l := by rw [D6, h5]
        have hx6 : txt (R5 l) false = bodyR l := by rw [bodyR, h5]
        have HL5 : Hid ((R5 l).length ≤ 70368744177664) := by rw [← hr5]; exact Nat.le_trans (txtRest_len _ _) HL4.out
        cases h6 : D6 l with
        | true =>
          have HT2 := Lib.hid (fun w => textNo (R5 l) w HL5.out (by rw [hd6, h6]))
          have HO : Hid (okAns l = false) := no_of h6
          clear h4 hr5 hd5 hx5 h5 h6 hr6 hd6 hx6
          have tg : Hid True := trivial
          go_wp2_with (first | (clear tg; go_at_call 26; refine (HT.out _).mono ?_; rintro e w1 ⟨rfl, q, rfl⟩) | (go_at_call 26; refine (HT2.out _).mono ?_; rintro e w1 ⟨t, rfl, q2, rfl⟩))
          refine bodyPost_ret (results_ct rfl _ _ w.heap.size 33 _ (0, 0) _ (by rfl) (set6 (w := (wr.drewN (q + q2))) _ _ _ _ _ _ HL.out.res).1 Try.underlying33 rfl Of.info33) rfl ?_
          exact ⟨by unfold resAns; rw [HO.out]; rfl, (Same.dn_below HL.out.below _).trans ((set6 (w := (wr.drewN (q + q2))) _ _ _ _ _ _ HL.out.res).2.below.mono (Nat.le_refl _))⟩
        | false =>
          have HT2 := Lib.hid (fun w => textOk (R5 l) w HL5.out _ _ hx6 hr6 (by rw [hd6, h6]))
          rcases Bool.eq_false_or_eq_true ((str (R6 l)).toList.isEmpty) with hz | hz
          · have HO : Hid (okAns l = true) := by
              show okAns l = true
              rw [str_toList, List.isEmpty_iff] at hz
              unfold okAns; rw [h6, hz]; rfl
            clear h4 hr5 hd5 hx5 h5 h6 hr6 hd6 hx6
            have tg : Hid True := trivial
            go_wp2_with (first | (clear tg; go_at_call 26; refine (HT.out _).mono ?_; rintro e w1 ⟨rfl, q, rfl⟩) | (go_at_call 26; refine (HT2.out _).mono ?_; rintro e w1 ⟨rfl, q2, rfl⟩))
            refine bodyPost_ret (results_ct rfl _ _ w.heap.size 33 _ (0, 0) _ (by rfl) (set6 (w := (wr.drewN (q + q2))) _ _ _ _ _ _ HL.out.res).1 Try.underlying33 rfl Of.info33) rfl ?_
            exact ⟨by unfold resAns; rw [HO.out]; rfl, (Same.dn_below HL.out.below _).trans ((set6 (w := (wr.drewN (q + q2))) _ _ _ _ _ _ HL.out.res).2.below.mono (Nat.le_refl _))⟩
          · have HO : Hid (okAns l = false) := by
              show okAns l = false
              rw [str_toList] at hz
              unfold okAns; rw [h6]; cases hR : R6 l with
              | nil => rw [hR] at hz; cases hz
              | cons x y => rfl
            clear h4 hr5 hd5 hx5 h5 h6 hr6 hd6 hx6
            have tg : Hid True := trivial
            go_wp2_with (first | (clear tg; go_at_call 26; refine (HT.out _).mono ?_; rintro e w1 ⟨rfl, q, rfl⟩) | (go_at_call 26; refine (HT2.out _).mono ?_; rintro e w1 ⟨rfl, q2, rfl⟩))
            refine bodyPost_ret (results_ct rfl _ _ w.heap.size 33 _ (0, 0) _ (by rfl) (set6 (w := (wr.drewN (q + q2))) _ _ _ _ _ _ HL.out.res).1 Try.underlying33 rfl Of.info33) rfl ?_
            exact ⟨by unfold resAns; rw [HO.out]; rfl, (Same.dn_below HL.out.below _).trans ((set6 (w := (wr.drewN (q + q2))) _ _ _ _ _ _ HL.out.res).2.below.mono (Nat.le_refl _))⟩
end Go.Proofs.Ytdojhdglbajinaa.RefD
