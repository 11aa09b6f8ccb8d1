/- DERIVED. carryalllaw28.Of: operations as the document has them. -/
import Derived.Test.YtdojhdglbajinaaScrParse
namespace Go.Proofs.Ytdojhdglbajinaa.ScrOf
open Go.RowKit Go.Proofs.Ytdojhdglbajinaa.Mem Go.Proofs.Ytdojhdglbajinaa.Writer Go.Proofs.Ytdojhdglbajinaa.Reader Go.Proofs.Ytdojhdglbajinaa.Enc Go.Proofs.Ytdojhdglbajinaa.Plain Go.Proofs.Ytdojhdglbajinaa.ScrOp Go.Proofs.Ytdojhdglbajinaa.ScrEnc Go.Proofs.Ytdojhdglbajinaa.ScrTake Go.Proofs.Ytdojhdglbajinaa.ScrParse
set_option linter.unusedVariables false
set_option linter.unusedSimpArgs false
theorem z91 : (Try.prog.info? 91).map (fun i => (i.zero, i.size, i.bytes)) = some (some (.agg #[.int .u8 0, .int .u8 0, .int .i64 0, .int .i64 0, .int .i64 0, .string ⟨#[]⟩, .string ⟨#[]⟩, .string ⟨#[]⟩, .string ⟨#[]⟩, .int .i64 0, .int .i64 0, .int .u8 0, .int .u8 0, .int .u8 0, .int .u8 0, .int .u8 0, .int .u8 0, .int .u8 0, .int .u8 0, .int .u8 0, .int .u8 0, .int .u8 0, .int .u8 0, .int .u8 0, .int .u8 0, .int .u8 0, .int .u8 0]), 27, 128) := by kernel_rfl
theorem i91s : (Try.prog.info? 91).map (·.size) = some 27 := by kernel_rfl
theorem flat_snoc (os : List OpV) (k : Nat) (h : k < os.length) : (os.take (k + 1)).flatMap opCells = (os.take k).flatMap opCells ++ opCells os[k] := by
  rw [List.take_add_one, List.getElem?_eq_getElem h, Option.toList_some, List.flatMap_append, List.flatMap_cons, List.flatMap_nil, List.append_nil]
theorem grown_below {w wk wl : World} {base n : Nat} {v : Value} {e : TypeId} {xs : List Value} {X : Obj} (hb : Below w.heap.size w wk) (hbase : base = w.heap.size) (hr : wk.ownsRow base e 27 v n xs) (h2 : (wk.alloc X).grownBy wl v.ownBlock) : Below w.heap.size w wl := by
  subst hbase
  have hb2 : Below w.heap.size wk wl := Below.grown ((Below.refl _ _).alloc hb.size X) h2 (by have := hb.size; simp; omega) (fun k hk => (hr.lt k hk).1)
  exact hb.trans hb2
set_option maxHeartbeats 1000000 in
set_option maxRecDepth 100000 in
theorem ofOps (A : Option Addr) (c : Nat) (os : List OpV) (w : World) (h : RdO w A os) (hn : os.length ≤ 1000000) :
    Calls Try.prog 44 #[.slice A os.length c] w fun e w' => ∃ B c', e = .returned (.slice B os.length c') ∧ RdO w' B os ∧ Below w.heap.size w w' := by
  have HA := Lib.hid h
  obtain ⟨i0, hi0, hz0, hz1, hz2⟩ := info_parts z91
  clear h
  obtain ⟨base, hbase⟩ : ∃ b, b = w.heap.size := ⟨_, rfl⟩
  have HBASE := Lib.hid hbase
  clear hbase
  go_enter Try.func44, Try.ntmps44
  go_wp2_with fail
  go_loopw [3, 7] (fun v i wr => ∃ (k : Nat), k ≤ os.length ∧ i = .int .i64 k ∧ Hid (wr.ownsRow base 91 27 v k ((os.take k).flatMap opCells)) ∧ Hid (Below w.heap.size w wr)) (fun _ i _ => os.length - (intOf i).toNat)
  case atStart => exact ⟨0, Nat.zero_le _, rfl, World.ownsRow_nil _ _ _ _, Below.refl _ _⟩
  case round =>
    obtain ⟨k, hkk, rfl, HR, HB⟩ := hrel
    by_cases hlt : k < os.length
    · obtain ⟨b, f, rfl, hc, hw⟩ := (HA.out.below HB.out).at k hlt
      have HSN := Lib.hid (flat_snoc os k hlt)
      obtain ⟨o, ho⟩ : ∃ o, o = os[k] := ⟨_, rfl⟩
      rw [← ho] at hc hw HSN
      clear ho
      have h88 := Lib.hid (opCells_i88 hw)
      have h27 := Lib.hid (opCells_len o hw.r)
      have HC := Lib.hid hc
      have HBS : Hid (base ≤ wr.heap.size) := by show _ ≤ _; rw [HBASE.out]; exact HB.out.size
      obtain ⟨A', c', rfl, hnc⟩ := own_form27 HR.out
      clear hc hw
      go_wp2_with (first
        | ((with_reducible refine wpList_load_mid rfl 88 (.tmp 13) rfl b (f + k * 27) ?hx (opCells o) _ HC.out Try.underlying88 rfl h88.out ?_); (case hx => rfl))
        | ((with_reducible refine wpList_slice_one rfl 82 (.tmp 14) rfl 91 Try.underlying82 hi0 hz0 hz1 (by decide) (by decide) (opCells o).toArray ?hx ?hs ?_); (case hx => rfl); (case hs => rw [List.size_toArray]; exact h27.out))
        | (at_builtin; refine wpList_append_own _ rfl (.tmp 10) (.tmp 15) 82 rfl base 91 i0 _ 27 128 Try.underlying82 hi0 hz0 hz1 hz2 rfl (by decide) _ k ((os.take k).flatMap opCells) rfl (own_alloc HR.out _) ⟨wr.heap.size, 0, none⟩ 1 1 (opCells o) rfl (by rw [h27.out]) (cells_new wr (opCells o) 91) (opCells_one o) (by unfold maxLen; omega) (by omega) (Nat.le_trans HBS.out (by simp)) ?_; intro v3 w3 hown hgrow _; have HR3 := Lib.hid hown; have HB3 := Lib.hid (grown_below HB.out HBASE.out HR.out hgrow); clear hown hgrow))
      go_roundw
      case rel => exact ⟨k + 1, by omega, by go_num, by show World.ownsRow _ _ _ _ _ _ _; rw [HSN.out]; exact HR3.out, HB3⟩
      case measure => simp [intOf]; omega
    · obtain rfl : k = os.length := by omega
      have hro := HR.out
      rw [List.take_of_length_le (Nat.le_refl _)] at hro
      obtain ⟨A', c', rfl, hnc⟩ := own_form27 hro
      have HRO := Lib.hid hro
      clear hro
      go_wp2_with fail
      go_ret
      exact ⟨A', c', rfl, rdO_own HRO.out HA.out.wf (by omega), HB.out⟩
end Go.Proofs.Ytdojhdglbajinaa.ScrOf
