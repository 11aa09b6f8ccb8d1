/- DERIVED. How an argument of type []script.Op reads. -/
import Derived.Test.YtdojhdglbajinaaOpenB
import Derived.Test.YtdojhdglbajinaaScrOp
import Derived.Lib.SmallJoins
import Derived.ChangeArms
namespace Go.Proofs.Ytdojhdglbajinaa.OpenO
open Go.ChangeShapes Go.WideShapes Go.ChangeAt Go.RowKit Go.Joins Go.Proofs.Ytdojhdglbajinaa.OpenB Go.Proofs.Ytdojhdglbajinaa.Mem Go.Proofs.Ytdojhdglbajinaa.ScrOp
set_option linter.unusedVariables false
theorem cells88 : Try.prog.cellsOf 88 = 27 := by kernel_rfl
theorem cells85 : Try.prog.cellsOf 85 = 4 := by kernel_rfl
theorem cells86 : Try.prog.cellsOf 86 = 16 := by kernel_rfl
theorem cells5 : Try.prog.cellsOf 5 = 1 := by kernel_rfl
theorem map_of : ∀ (l : List Value), (∀ v ∈ l, ∃ u, v = cellB u) → ∃ r : List UInt8, l = r.map cellB
  | [], _ => ⟨[], rfl⟩
  | v :: l, h => by
    obtain ⟨u, rfl⟩ := h v (by simp)
    obtain ⟨r, rfl⟩ := map_of l (fun v hv => h v (by simp [hv]))
    exact ⟨u :: r, rfl⟩
section
variable {H : Type} {enc : TypeId × Value → H} {W : World} {base : Nat} {spare : Nat → Bool} {held : Bool}
theorem i64_of {z : Int} (h : (Lit.int .i64 z).wf = true) : I64 z := by
  have := bounds_i64 h; exact ⟨this.1, by omega⟩
theorem u8_of {z : Int} (h : (Lit.int .u8 z).wf = true) : ∃ k : Nat, z = k ∧ k < 256 := by
  have := bounds_u8 h; exact ⟨z.toNat, by omega, by omega⟩
theorem open_r {n : Nat} {cs : List Value} {y : DataW H × List MemPlace} (h : DataW.trod enc Try.prog W base spare held n 86 cs = some y) : ∃ r : List UInt8, cs = r.map cellB ∧ r.length = 16 := by
  obtain ⟨zs, m, _, hx, hl, hzl, hg⟩ := DataW.trod_array Try.underlying86 h
  rw [cells86] at hl
  have hall : ∀ v ∈ cs, ∃ u, v = cellB u := by
    intro v hv
    obtain ⟨i, hi, rfl⟩ := List.mem_iff_getElem.1 hv
    have h1 := hg i (by omega)
    rw [cells5, Nat.mul_one, List.getElem?_eq_getElem (by omega)] at h1
    obtain ⟨z, e, -, wz⟩ := DataW.trod_int Try.underlying5 h1
    rw [List.drop_eq_getElem_cons hi] at e
    simp only [List.take_succ_cons, List.take_zero, List.cons.injEq, and_true] at e
    exact ⟨_, e.trans (cell_toB wz)⟩
  obtain ⟨r, rfl⟩ := map_of cs hall
  exact ⟨r, rfl, by simpa using hl⟩
set_option maxRecDepth 100000 in
theorem open_op {fuel : Nat} {cs : List Value} {d : DataW H} {p : List MemPlace} (h : DataW.trod enc Try.prog W base spare held fuel 88 cs = some (d, p)) (hsz : (DataW.weights Try.prog 88 d).all (· ≤ reachBytes) = true) :
    ∃ o : OpV, o.Wf ∧ cs = opCells o := by
  obtain ⟨xs, n, _, hx, hcl, hlen, hg⟩ := DataW.trod_struct Try.underlying88 h
  rw [cells88] at hcl
  match cs, hcl with
  | v0 :: v1 :: v2 :: v3 :: v4 :: v5 :: v6 :: v7 :: v8 :: v9 :: v10 :: tl, hcl =>
    have htl : tl.length = 16 := by simpa using hcl
    match xs, hlen with
    | [y0, y1, y2, y3, y4, y5, y6, y7, y8], _ =>
      simp only [Prod.mk.injEq] at hx
      obtain ⟨hd, -⟩ := hx
      have g0 : DataW.trod enc Try.prog W base spare held n 5 [v0] = some y0 := hg 0 _ rfl
      have g1 : DataW.trod enc Try.prog W base spare held n 5 [v1] = some y1 := hg 1 _ rfl
      have g2 : DataW.trod enc Try.prog W base spare held n 2 [v2] = some y2 := hg 2 _ rfl
      have g3 : DataW.trod enc Try.prog W base spare held n 2 [v3] = some y3 := hg 3 _ rfl
      have g4 : DataW.trod enc Try.prog W base spare held n 2 [v4] = some y4 := hg 4 _ rfl
      have g5 : DataW.trod enc Try.prog W base spare held n 9 [v5] = some y5 := hg 5 _ rfl
      have g6 : DataW.trod enc Try.prog W base spare held n 9 [v6] = some y6 := hg 6 _ rfl
      have g7 : DataW.trod enc Try.prog W base spare held n 85 [v7, v8, v9, v10] = some y7 := hg 7 _ rfl
      have g8 : DataW.trod enc Try.prog W base spare held n 86 (((v0 :: v1 :: v2 :: v3 :: v4 :: v5 :: v6 :: v7 :: v8 :: v9 :: v10 :: tl).drop 11).take (Try.prog.cellsOf 86)) = some y8 := hg 8 _ rfl
      rw [show ((v0 :: v1 :: v2 :: v3 :: v4 :: v5 :: v6 :: v7 :: v8 :: v9 :: v10 :: tl).drop 11).take (Try.prog.cellsOf 86) = tl from by rw [cells86]; show tl.take 16 = tl; exact List.take_of_length_le (by omega)] at g8
      obtain ⟨k0, e0, -, w0⟩ := DataW.trod_int Try.underlying5 g0
      obtain ⟨k1, e1, -, w1⟩ := DataW.trod_int Try.underlying5 g1
      obtain ⟨x2, e2, -, w2⟩ := DataW.trod_int Try.underlying2 g2
      obtain ⟨x3, e3, -, w3⟩ := DataW.trod_int Try.underlying2 g3
      obtain ⟨x4, e4, -, w4⟩ := DataW.trod_int Try.underlying2 g4
      obtain ⟨s5, e5, hy5, -⟩ := DataW.trod_string Try.underlying9 g5
      obtain ⟨s6, e6, hy6, -⟩ := DataW.trod_string Try.underlying9 g6
      obtain ⟨zs, m, _, hx7, _, hl7, hg7⟩ := DataW.trod_struct Try.underlying85 g7
      match zs, hl7 with
      | [z0, z1, z2, z3], _ =>
        have p0 : DataW.trod enc Try.prog W base spare held m 9 [v7] = some z0 := hg7 0 _ rfl
        have p1 : DataW.trod enc Try.prog W base spare held m 9 [v8] = some z1 := hg7 1 _ rfl
        have p2 : DataW.trod enc Try.prog W base spare held m 3 [v9] = some z2 := hg7 2 _ rfl
        have p3 : DataW.trod enc Try.prog W base spare held m 2 [v10] = some z3 := hg7 3 _ rfl
        obtain ⟨s7, e7, hz7, -⟩ := DataW.trod_string Try.underlying9 p0
        obtain ⟨s8, e8, hz8, -⟩ := DataW.trod_string Try.underlying9 p1
        obtain ⟨x9, e9, -, w9⟩ := DataW.trod_int Try.underlying3 p2
        obtain ⟨x10, e10, -, w10⟩ := DataW.trod_int Try.underlying2 p3
        obtain ⟨r, rfl, hr⟩ := open_r (show DataW.trod enc Try.prog W base spare held n 86 tl = some y8 from g8)
        simp at e0 e1 e2 e3 e4 e5 e6 e7 e8 e9 e10
        subst e0 e1 e2 e3 e4 e5 e6 e7 e8 e9 e10
        obtain ⟨a0, rfl, h0⟩ := u8_of w0
        obtain ⟨a1, rfl, h1⟩ := u8_of w1
        have hw7 : y7.1 = .agg [z0.1, z1.1, z2.1, z3.1] := by rw [hx7]; rfl
        have hd' : d = .agg [y0.1, y1.1, y2.1, y3.1, y4.1, y5.1, y6.1, y7.1, y8.1] := by simpa using hd
        have hw : DataW.weights Try.prog 88 (.agg [y0.1, y1.1, y2.1, y3.1, y4.1, y5.1, y6.1, y7.1, y8.1]) = DataW.weights Try.prog 5 y0.1 ++ (DataW.weights Try.prog 5 y1.1 ++ (DataW.weights Try.prog 2 y2.1 ++ (DataW.weights Try.prog 2 y3.1 ++ (DataW.weights Try.prog 2 y4.1 ++ (DataW.weights Try.prog 9 y5.1 ++ (DataW.weights Try.prog 9 y6.1 ++ (DataW.weights Try.prog 85 y7.1 ++ (DataW.weights Try.prog 86 y8.1 ++ [])))))))) := by
          simp [DataW.weights, DataW.weightsEach, Try.underlying88]
        have hw2 : DataW.weights Try.prog 85 (.agg [z0.1, z1.1, z2.1, z3.1]) = DataW.weights Try.prog 9 z0.1 ++ (DataW.weights Try.prog 9 z1.1 ++ (DataW.weights Try.prog 3 z2.1 ++ (DataW.weights Try.prog 2 z3.1 ++ []))) := by
          simp [DataW.weights, DataW.weightsEach, Try.underlying85]
        rw [hd', hw, hw7, hw2] at hsz
        simp only [List.all_append, Bool.and_eq_true] at hsz
        obtain ⟨_, _, _, _, _, q5, q6, ⟨q7, q8, _⟩, _⟩ := hsz
        rw [hy5] at q5
        rw [hy6] at q6
        rw [hz7] at q7
        rw [hz8] at q8
        simp [DataW.weights, reachBytes] at q5 q6 q7 q8
        refine ⟨⟨a0, a1, x2, x3, x4, s5.data.toList, s6.data.toList, s7.data.toList, s8.data.toList, x9, x10, r⟩, ⟨h0, h1, i64_of w2, i64_of w3, i64_of w4, i64_of w9, i64_of w10, hr, ?_, ?_, ?_, ?_⟩, ?_⟩
        · show s5.data.toList.length ≤ _; rw [Array.length_toList]; exact of_decide_eq_true q5
        · show s6.data.toList.length ≤ _; rw [Array.length_toList]; exact of_decide_eq_true q6
        · show s7.data.toList.length ≤ _; rw [Array.length_toList]; exact of_decide_eq_true q7
        · show s8.data.toList.length ≤ _; rw [Array.length_toList]; exact of_decide_eq_true q8
        · unfold opCells
          simp only [str_data]
          rfl
theorem weights_all {e : TypeId} : ∀ {l : List (DataW H)} {d : DataW H}, d ∈ l → (DataW.weightsAll Try.prog e l).all (· ≤ reachBytes) = true → (DataW.weights Try.prog e d).all (· ≤ reachBytes) = true
  | d' :: l, d, hd, h => by
    simp only [DataW.weightsAll, List.all_append, Bool.and_eq_true] at h
    rcases List.mem_cons.1 hd with rfl | hd
    · exact h.1
    · exact weights_all hd h.2
theorem open_ops {A : Option Addr} {len cap : Nat} {d : DataW H} {p : List MemPlace} (h : DataW.Trod enc Try.prog W base spare held 67 (.slice A len cap) d p) (hsz : (DataW.weights Try.prog 67 d).all (· ≤ reachBytes) = true) :
    ∃ os : List OpV, len = os.length ∧ os.length ≤ cap ∧ RdO W A os := by
  obtain ⟨fuel, hf⟩ := h
  rcases Go.Deep.open_slice Try.underlying67 hf with ⟨hcs, hx⟩ | ⟨x, l, c, m, n, D, Pl, hcs, hb, hl, hm, hmm, hx, hi⟩
  · simp [Value.cells] at hcs
    obtain ⟨rfl, rfl, rfl⟩ := hcs
    exact ⟨[], rfl, by simp, RdO.nil _ _⟩
  · simp [Value.cells] at hcs
    obtain ⟨rfl, rfl, rfl⟩ := hcs
    have hle : len ≤ m := by rw [hmm]; split <;> omega
    obtain rfl : d = _ := congrArg Prod.fst hx
    have hws : (DataW.weightsAll Try.prog 88 ((List.range len).map D)).all (· ≤ reachBytes) = true := by
      simp only [DataW.weights, Try.underlying67, List.all_cons, List.all_append, Bool.and_eq_true] at hsz
      exact hsz.2.1
    have hone : ∀ i, i < len → ∃ o : OpV, o.Wf ∧ W.cells? base (x.add (i * 27)) 27 = some (opCells o) := by
      intro i hil
      obtain ⟨cs', hc, ht⟩ := hi i (by omega)
      rw [cells88] at hc
      obtain ⟨o, hw, rfl⟩ := open_op ht (weights_all (List.mem_map.2 ⟨i, List.mem_range.2 hil, rfl⟩) hws)
      exact ⟨o, hw, hc⟩
    let f : Nat → OpV := fun i => if h : i < len then (hone i h).choose else default
    have hfw : ∀ i, i < len → (f i).Wf ∧ W.cells? base (x.add (i * 27)) 27 = some (opCells (f i)) := by
      intro i h
      show (if h : i < len then (hone i h).choose else default).Wf ∧ W.cells? base (x.add (i * 27)) 27 = some (opCells (if h : i < len then (hone i h).choose else default))
      rw [dif_pos h]
      exact (hone i h).choose_spec
    have hll : ((List.range len).map f).length = len := by simp
    refine ⟨(List.range len).map f, hll.symm, by omega, ⟨by unfold maxLen at hm; omega, fun o ho => ?_, fun hp => ?_⟩⟩
    · obtain ⟨i, hir, rfl⟩ := List.mem_map.1 ho
      exact (hfw i (List.mem_range.1 hir)).1
    · rw [hll] at hp
      have h0 := (World.cells?_some (hfw 0 hp).2).2.2 0 (by decide)
      have hspot : x.spot = none := by
        have he : (x.add (0 * 27)).add 0 = x := by simp [Addr.add]
        rw [he] at h0
        have h1 : W.cell? x = some (.int .u8 (f 0).kind) := h0
        unfold World.cell? at h1
        split at h1
        · split at h1
          · cases h1
          · rename_i hs
            cases hq : x.spot with
            | none => rfl
            | some y => rw [hq] at hs; simp at hs
        · cases h1
      obtain ⟨b, o', sp⟩ := x
      simp only at hspot
      subst hspot
      refine ⟨b, o', rfl, fun j o hj i v hv => ?_⟩
      have hjl : j < len := by have := (List.getElem?_eq_some_iff.1 hj).1; rw [hll] at this; exact this
      have hfj : f j = o := by
        rw [List.getElem?_map, List.getElem?_range hjl] at hj
        simpa using hj
      obtain ⟨hw, hc⟩ := hfw j hjl
      rw [hfj] at hw hc
      have hil : i < 27 := by have := (List.getElem?_eq_some_iff.1 hv).1; rw [opCells_len o hw.r] at this; exact this
      have h3 := (World.cells?_some hc).2.2 i hil
      rw [Addr.add_mid, Addr.add_mid, hv] at h3
      exact h3
end
end Go.Proofs.Ytdojhdglbajinaa.OpenO
