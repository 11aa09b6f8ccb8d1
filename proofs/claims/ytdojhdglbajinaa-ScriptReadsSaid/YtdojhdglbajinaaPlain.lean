/- DERIVED. What is written is read as it was; what is read was written so: plain lists of bytes. -/
import Derived.Test.YtdojhdglbajinaaSame
namespace Go.Proofs.Ytdojhdglbajinaa.Plain
open Go.RowKit Go.Proofs.Ytdojhdglbajinaa.Mem Go.Proofs.Ytdojhdglbajinaa.Writer Go.Proofs.Ytdojhdglbajinaa.Reader Go.Proofs.Ytdojhdglbajinaa.Enc Go.Proofs.Ytdojhdglbajinaa.Dec
set_option linter.unusedVariables false
set_option linter.unusedSimpArgs false

theorem pow8 (k : Nat) : 2 ^ (8 * k) = 256 ^ k := by rw [Nat.pow_mul]
theorem be_succ (n m : Nat) : be n (m + 1) = byteAt n m :: be n m := by
  unfold be
  rw [List.range_succ_eq_map, List.map_cons, List.map_map]
  congr 1
  apply List.map_congr_left
  intro j hj
  simp only [Function.comp]
  congr 1
  omega
theorem num_cons (b : UInt8) (l : List UInt8) : num (b :: l) = b.toNat * 256 ^ l.length + num l := by
  have h : ∀ (l : List UInt8) (a : Nat), l.foldl (fun a b => a * 256 + b.toNat) a = a * 256 ^ l.length + num l := by
    intro l
    induction l with
    | nil => intro a; simp [num]
    | cons c l ih =>
      intro a
      have e1 := ih (a * 256 + c.toNat)
      have e2 := ih c.toNat
      have e3 : num (c :: l) = l.foldl (fun a b => a * 256 + b.toNat) c.toNat := by simp [num]
      rw [List.foldl_cons, e1, e3, e2, List.length_cons, Nat.pow_succ, Nat.add_mul]
      rw [Nat.mul_assoc, Nat.mul_comm 256, Nat.add_assoc]
  have := h l b.toNat
  rw [← this]
  simp [num]
theorem byteAt_nat (n k : Nat) : (byteAt n k).toNat = n / 256 ^ k % 256 := by
  unfold byteAt
  rw [UInt8.toNat_ofNat', pow8]
  omega
theorem num_be (n m : Nat) : num (be n m) = n % 256 ^ m := by
  induction m with
  | zero => simp [be, num, Nat.mod_one]
  | succ m ih =>
    rw [be_succ, num_cons, be_len, ih, byteAt_nat, Nat.pow_succ, Nat.mod_mul, Nat.mul_comm, Nat.add_comm]
theorem byteAt_low (b r m k : Nat) (h : k < m) : byteAt (b * 256 ^ m + r) k = byteAt r k := by
  apply UInt8.toNat_inj.1
  rw [byteAt_nat, byteAt_nat]
  obtain ⟨d, rfl⟩ : ∃ d, m = k + 1 + d := ⟨m - (k + 1), by omega⟩
  have e : b * 256 ^ (k + 1 + d) + r = r + 256 ^ k * (256 * (256 ^ d * b)) := by
    rw [Nat.pow_add, Nat.pow_succ, Nat.add_comm]
    congr 1
    rw [Nat.mul_comm b, Nat.mul_assoc, Nat.mul_assoc]
  rw [e, Nat.add_mul_div_left _ _ (Nat.pow_pos (by omega)), Nat.add_mul_mod_self_left]
theorem be_low (b r : Nat) : ∀ m k : Nat, k ≤ m → be (b * 256 ^ m + r) k = be r k := by
  intro m k h
  unfold be
  apply List.map_congr_left
  intro j hj
  rw [List.mem_range] at hj
  exact byteAt_low b r m _ (by omega)
theorem be_num : ∀ l : List UInt8, be (num l) l.length = l
  | [] => rfl
  | b :: l => by
    rw [List.length_cons, be_succ, num_cons, be_low _ _ _ _ (Nat.le_refl _), be_num l]
    congr 1
    apply UInt8.toNat_inj.1
    rw [byteAt_nat]
    have h1 := num_lt l
    have h2 : (b.toNat * 256 ^ l.length + num l) / 256 ^ l.length = b.toNat := by
      rw [Nat.mul_comm, Nat.mul_add_div (Nat.pow_pos (by omega)), Nat.div_eq_of_lt h1]; omega
    rw [h2]
    have := b.toNat_lt
    omega
theorem be_num_of {l : List UInt8} {m : Nat} (h : l.length = m) : be (num l) m = l := by subst h; exact be_num l

theorem got_app (x y : List UInt8) (n : Nat) (h : x.length = n) : got (x ++ y) false n = x ∧ rest (x ++ y) false n = y ∧ isBad (x ++ y) false n = false := by
  have hb : isBad (x ++ y) false n = false := by simp [isBad, h]
  subst h
  unfold got rest
  rw [hb]
  simp
theorem bad_of {l : List UInt8} {b : Bool} {n : Nat} (h : isBad l b n = false) : b = false ∧ n ≤ l.length := by
  unfold isBad at h
  simp at h
  exact ⟨h.1, h.2⟩
theorem got_rest {l : List UInt8} {n : Nat} (h : isBad l false n = false) : got l false n ++ rest l false n = l ∧ (got l false n).length = n := by
  have := (bad_of h).2
  unfold got rest
  rw [h]
  simp; omega
/-- A text that was written is read. -/
theorem txt_app (t y : List UInt8) (ht : t.length < 4294967296) : txt (textB t ++ y) false = t ∧ txtRest (textB t ++ y) false = y ∧ txtBad (textB t ++ y) false = false := by
  have e : textB t ++ y = be t.length 4 ++ (t ++ y) := by unfold textB; rw [List.append_assoc]
  obtain ⟨h1, h2, h3⟩ := got_app (be t.length 4) (t ++ y) 4 (be_len _ _)
  have hn : txtN (textB t ++ y) false = t.length := by
    unfold txtN; rw [e, h1, num_be]; omega
  obtain ⟨g1, g2, g3⟩ := got_app t y t.length rfl
  unfold txt txtRest txtBad
  rw [hn, e, h2, h3]
  exact ⟨g1, g2, g3⟩
theorem txt_of {l : List UInt8} {b : Bool} (h : txtBad l b = false) : b = false ∧ textB (txt l b) ++ txtRest l b = l ∧ (txt l b).length < 4294967296 := by
  unfold txtBad at h
  obtain ⟨h1, h2⟩ := bad_of h
  obtain ⟨rfl, h4⟩ := bad_of h1
  rw [h1] at h
  obtain ⟨p1, p2⟩ := got_rest h1
  obtain ⟨q1, q2⟩ := got_rest h
  have hn : txtN l false = num (got l false 4) := rfl
  have ht : txt l false = got (rest l false 4) false (txtN l false) := by unfold txt; rw [h1]
  have hr : txtRest l false = rest (rest l false 4) false (txtN l false) := by unfold txtRest; rw [h1]
  refine ⟨rfl, ?_, ?_⟩
  · unfold textB
    rw [ht, hr, q2, hn, be_num_of p2, ← hn, List.append_assoc, q1, p1]
  · rw [ht, q2, hn]
    exact num_lt8 _ 4 (got_len _ _ _)

/-! ### Answers -/
/-- An answer as its bytes have it. -/
def trim (a : Ans) : Ans := ⟨un8 a.sort, un32 a.status, a.first, a.total, a.kind, a.body⟩
theorem i64_u64 (x : Int) (h1 : -9223372036854775808 ≤ x) (h2 : x < 9223372036854775808) : IntKind.i64.wrap ((u64n x : Nat) : Int) = x := by
  rw [IntKind.wrap_i64]; unfold u64n; omega
theorem u64_i64 (n : Nat) (h : n < 18446744073709551616) : u64n (IntKind.i64.wrap (n : Int)) = n := by
  rw [IntKind.wrap_i64]; unfold u64n; omega
theorem rd_enc (a : Ans) (y : List UInt8) (hk : a.kind.length < 4294967296) (hb : a.body.length < 4294967296)
    (f1 : -9223372036854775808 ≤ a.first) (f2 : a.first < 9223372036854775808) (t1 : -9223372036854775808 ≤ a.total) (t2 : a.total < 9223372036854775808) :
    rdAns (enc a ++ y) = trim a ∧ R6 (enc a ++ y) = y ∧ D6 (enc a ++ y) = false := by
  have e : enc a ++ y = be (un8 a.sort) 1 ++ (be (un32 a.status) 4 ++ (be (u64n a.first) 8 ++ (be (u64n a.total) 8 ++ (textB a.kind ++ (textB a.body ++ y))))) := by
    unfold enc; simp only [List.append_assoc]
  obtain ⟨L, hL⟩ : ∃ L, L = enc a ++ y := ⟨_, rfl⟩
  rw [← hL] at e ⊢
  obtain ⟨a1, a2, a3⟩ := got_app (be (un8 a.sort) 1) (be (un32 a.status) 4 ++ (be (u64n a.first) 8 ++ (be (u64n a.total) 8 ++ (textB a.kind ++ (textB a.body ++ y))))) 1 (be_len _ _)
  rw [← e] at a1 a2 a3
  have r1 := Eq.trans (show R1 L = _ from by rw [R1]) a2
  have d1 : D1 L = false := by rw [D1]; exact a3
  obtain ⟨b1, b2, b3⟩ := got_app (be (un32 a.status) 4) (be (u64n a.first) 8 ++ (be (u64n a.total) 8 ++ (textB a.kind ++ (textB a.body ++ y)))) 4 (be_len _ _)
  have r2 := Eq.trans (show R2 L = _ from by rw [R2, r1, d1]) b2
  have d2 : D2 L = false := by rw [D2, r1, d1]; exact b3
  obtain ⟨c1, c2, c3⟩ := got_app (be (u64n a.first) 8) (be (u64n a.total) 8 ++ (textB a.kind ++ (textB a.body ++ y))) 8 (be_len _ _)
  have r3 := Eq.trans (show R3 L = _ from by rw [R3, r2, d2]) c2
  have d3 : D3 L = false := by rw [D3, r2, d2]; exact c3
  obtain ⟨g1, g2, g3⟩ := got_app (be (u64n a.total) 8) (textB a.kind ++ (textB a.body ++ y)) 8 (be_len _ _)
  have r4 := Eq.trans (show R4 L = _ from by rw [R4, r3, d3]) g2
  have d4 : D4 L = false := by rw [D4, r3, d3]; exact g3
  obtain ⟨k1, k2, k3⟩ := txt_app a.kind (textB a.body ++ y) hk
  have r5 := Eq.trans (show R5 L = _ from by rw [R5, r4, d4]) k2
  have d5 : D5 L = false := by rw [D5, r4, d4]; exact k3
  obtain ⟨m1, m2, m3⟩ := txt_app a.body y hb
  have r6 := Eq.trans (show R6 L = _ from by rw [R6, r5, d5]) m2
  have d6 : D6 L = false := by rw [D6, r5, d5]; exact m3
  refine ⟨?_, r6, d6⟩
  unfold rdAns trim
  rw [sortR, statR, firstR, totalR, kindR, bodyR, a1, r1, d1, b1, r2, d2, c1, r3, d3, g1, r4, d4, k1, r5, d5, m1, num_be, num_be, num_be, num_be]
  have h1 := un8_lt a.sort
  have h2 := un32_lt a.status
  have h3 := u64n_lt a.first
  have h4 := u64n_lt a.total
  rw [Nat.mod_eq_of_lt (by omega), Nat.mod_eq_of_lt (by omega), Nat.mod_eq_of_lt (by omega), Nat.mod_eq_of_lt (by omega), i64_u64 _ f1 f2, i64_u64 _ t1 t2]
theorem ok_enc (a : Ans) (y : List UInt8) (hk : a.kind.length < 4294967296) (hb : a.body.length < 4294967296)
    (f1 : -9223372036854775808 ≤ a.first) (f2 : a.first < 9223372036854775808) (t1 : -9223372036854775808 ≤ a.total) (t2 : a.total < 9223372036854775808) : okAns (enc a ++ y) = (y.length == 0) := by
  obtain ⟨_, h2, h3⟩ := rd_enc a y hk hb f1 f2 t1 t2
  unfold okAns
  rw [h2, h3]; rfl
/-- What is read well was written so. -/
theorem enc_rd {l : List UInt8} (h : okAns l = true) : enc (rdAns l) = l ∧ (rdAns l).kind.length < 4294967296 ∧ (rdAns l).body.length < 4294967296 := by
  unfold okAns at h
  simp at h
  obtain ⟨h6, hr⟩ := h
  rw [D6] at h6
  rw [R6] at hr
  obtain ⟨h5, e6, n6⟩ := txt_of h6
  have h5' := h5
  rw [D5] at h5
  obtain ⟨h4, e5, n5⟩ := txt_of h5
  have h4' := h4
  rw [D4] at h4
  obtain ⟨h3, -⟩ := bad_of h4
  have h3' := h3
  rw [D3] at h3
  obtain ⟨h2, -⟩ := bad_of h3
  have h2' := h2
  rw [D2] at h2
  obtain ⟨h1, -⟩ := bad_of h2
  have h1' := h1
  rw [D1] at h1
  rw [h3'] at h4
  rw [h2'] at h3
  rw [h1'] at h2
  obtain ⟨p1, q1⟩ := got_rest h1
  obtain ⟨p2, q2⟩ := got_rest h2
  obtain ⟨p3, q3⟩ := got_rest h3
  obtain ⟨p4, q4⟩ := got_rest h4
  refine ⟨?_, by show (kindR l).length < _; rw [kindR]; exact n5, by show (bodyR l).length < _; rw [bodyR]; exact n6⟩
  have s1 : un8 (sortR l : Nat) = sortR l := by have := sortR_lt l; unfold un8; omega
  have s2 : un32 (statR l : Nat) = statR l := by have := statR_lt l; unfold un32; omega
  unfold enc
  show be (un8 (sortR l : Nat)) 1 ++ be (un32 (statR l : Nat)) 4 ++ be (u64n (firstR l)) 8 ++ be (u64n (totalR l)) 8 ++ textB (kindR l) ++ textB (bodyR l) = l
  rw [s1, s2, sortR, statR, firstR, totalR, kindR, bodyR, h1', h2', h3', h4', h5']
  rw [u64_i64 _ (num_lt8 _ 8 (got_len _ _ _)), u64_i64 _ (num_lt8 _ 8 (got_len _ _ _))]
  rw [be_num_of q1, be_num_of q2, be_num_of q3, be_num_of q4]
  rw [hr, List.append_nil, h5'] at e6
  rw [h4'] at e5
  rw [e6]
  have e5' : textB (txt (R4 l) false) ++ R5 l = R4 l := by rw [R5, h4']; exact e5
  simp only [List.append_assoc]
  rw [e5', R4, h3', p4, R3, h2', p3, R2, h1', p2, R1, p1]
/-- A beginning of an answer's bytes is none. -/
theorem cut_enc (a : Ans) (p q : List UInt8) (hk : a.kind.length < 4294967296) (hb : a.body.length < 4294967296)
    (f1 : -9223372036854775808 ≤ a.first) (f2 : a.first < 9223372036854775808) (t1 : -9223372036854775808 ≤ a.total) (t2 : a.total < 9223372036854775808) (h : p ++ q = enc a) (hq : 0 < q.length) : okAns p = false := by
  cases hp : okAns p with
  | false => rfl
  | true =>
    obtain ⟨h1, h2, h3⟩ := enc_rd hp
    have r1 : ∀ n : Nat, -9223372036854775808 ≤ IntKind.i64.wrap (n : Int) ∧ IntKind.i64.wrap (n : Int) < 9223372036854775808 := fun n => by rw [IntKind.wrap_i64]; omega
    have k1 := ok_enc (rdAns p) q h2 h3 (by show _ ≤ firstR p; rw [firstR]; exact (r1 _).1) (by show firstR p < _; rw [firstR]; exact (r1 _).2) (by show _ ≤ totalR p; rw [totalR]; exact (r1 _).1) (by show totalR p < _; rw [totalR]; exact (r1 _).2)
    have k2 := ok_enc a [] hk hb f1 f2 t1 t2
    rw [h1, h] at k1
    rw [List.append_nil, k1] at k2
    simp at k2
    subst k2
    simp at hq
end Go.Proofs.Ytdojhdglbajinaa.Plain
