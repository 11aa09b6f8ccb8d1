/- DERIVED. The document's bytes of a result; a result as the document has it. -/
import Derived.Test.YtdojhdglbajinaaScrRes
import Derived.Test.YtdojhdglbajinaaScrTake
import Derived.Test.YtdojhdglbajinaaReg
namespace Go.Proofs.Ytdojhdglbajinaa.ScrRef
open Go.RowKit Go.Proofs.Ytdojhdglbajinaa.Mem Go.Proofs.Ytdojhdglbajinaa.Writer Go.Proofs.Ytdojhdglbajinaa.Reader Go.Proofs.Ytdojhdglbajinaa.Enc Go.Proofs.Ytdojhdglbajinaa.Plain Go.Proofs.Ytdojhdglbajinaa.RefEnc Go.Proofs.Ytdojhdglbajinaa.ScrRes Go.Proofs.Ytdojhdglbajinaa.Reg Go.Proofs.YtdojhdglbajinaaW.PrintLast
set_option linter.unusedVariables false
set_option linter.unusedSimpArgs false

theorem i76s : (Try.prog.info? 76).map (·.size) = some 9 := by kernel_rfl
theorem facts76 {w : World} {b : Nat} {r : ResV} {t : Nat} {fr : Nat × Nat} (h : w.heap[b]? = some (.cells (cells76 r) t fr)) :
    Hid (w.cell? ⟨b, 0, none⟩ = some (.int .i64 r.errno)) ∧ Hid (w.cell? ⟨b, 1, none⟩ = some (.int .i64 r.h)) ∧ Hid (w.cell? ⟨b, 2, none⟩ = some (.string (str r.s))) ∧ Hid (w.cell? ⟨b, 3, none⟩ = some (.int .i64 r.a.sort)) ∧ Hid (w.cell? ⟨b, 4, none⟩ = some (.int .i64 r.a.status)) ∧ Hid (w.cell? ⟨b, 5, none⟩ = some (.int .i64 r.a.first)) ∧ Hid (w.cell? ⟨b, 6, none⟩ = some (.int .i64 r.a.total)) ∧ Hid (w.cell? ⟨b, 7, none⟩ = some (.string (str r.a.kind))) ∧ Hid (w.cell? ⟨b, 8, none⟩ = some (.string (str r.a.body))) := by
  refine ⟨?_, ?_, ?_, ?_, ?_, ?_, ?_, ?_, ?_⟩ <;> (show _ = _; simp [World.cell?, h, cells76])
theorem facts72h {w : World} {b : Nat} {r : ResV} {A : Option Addr} {c t : Nat} {fr : Nat × Nat} (h : w.heap[b]? = some (.cells (cells72 r A c) t fr)) :
    Hid (w.cell? ⟨b, 0, none⟩ = some (.int .i64 r.errno)) ∧ Hid (w.cell? ⟨b, 1, none⟩ = some (.int .i64 r.h)) ∧ Hid (w.cell? ⟨b, 2, none⟩ = some (.string (str r.s))) ∧ Hid (w.cell? ⟨b, 3, none⟩ = some (.int .i64 r.a.sort)) ∧ Hid (w.cell? ⟨b, 4, none⟩ = some (.int .i64 r.a.status)) ∧ Hid (w.cell? ⟨b, 5, none⟩ = some (.int .i64 r.a.first)) ∧ Hid (w.cell? ⟨b, 6, none⟩ = some (.int .i64 r.a.total)) ∧ Hid (w.cell? ⟨b, 7, none⟩ = some (.string (str r.a.kind))) ∧ Hid (w.cell? ⟨b, 8, none⟩ = some (.slice A r.a.body.length c)) := facts72 h
theorem encR_wide (r : ResV) : be (u64n r.errno) 1 ++ be (u64n r.h) 8 ++ textB r.s ++ textB (enc r.a) = encR r := by
  unfold encR
  rw [be_mod (u64n r.errno), be_mod (un8 r.errno)]
  rw [show u64n r.errno % 256 ^ 1 = un8 r.errno % 256 ^ 1 by unfold u64n un8; omega]
theorem one76 (r : ResV) : (cells76 r).all (·.oneCell') = true := by simp [cells76, Value.oneCell']
theorem built76 (r : ResV) : Try.prog.built 76 [(0, .int .i64 r.errno), (1, .int .i64 r.h), (2, .string (str r.s)), (3, rval r.a)] = some (cells76 r) := by kernel_rfl
section
variable {P : Program} {o : Oper} {a : Act} {w : World}
theorem run_built (t : TypeId) (parts : Array (Nat × Operand)) (ho : o.op = .build t parts) (vs : List (Nat × Value)) (hv : (parts.map fun (i, x) => (i, a.eval x)).toList = vs) (cells : Array Value)
    (hb : P.built t vs = some cells) : (execOp a.eval o).run P w = .ok (.value (.agg cells)) w := by
  have e : P.built t (parts.map fun (i, x) => (i, a.eval x)).toList = some cells := by rw [hv]; exact hb
  unfold execOp
  simp only [ho, Sem.run_bind, run_build (P := P) w t _ cells e, Result.andThen_ok, Sem.run_pure]
theorem run_store_row (ty : TypeId) (x y : Operand) (ho : o.op = .store ty x y)
    (g : Nat) (cells : Array Value) (hx : a.eval x = .pointer (some ⟨g, 0, none⟩)) (hy : a.eval y = .agg cells)
    (t : TypeId) (old : Array Value) (hg : w.heap[g]? = some (.cells old t (0, 0))) (hi : (P.info? ty).map (·.size) = some cells.size)
    (hold : old.size = cells.size) (h1 : cells.all (·.oneCell') = true) : (execOp a.eval o).run P w = .ok .skip (w.setRow g cells) := by
  unfold execOp
  simp only [ho, hx, hy, Instr.storeAt, Instr.sureAddr, Sem.run_bind, Sem.run_pure, Result.andThen_ok, run_storeVar_row w g t ty old cells hg hi hold h1]
end
def z76 : Array Value := #[.int .i64 0, .int .i64 0, .string ⟨#[]⟩, .int .i64 0, .int .i64 0, .int .i64 0, .int .i64 0, .string ⟨#[]⟩, .string ⟨#[]⟩]
set_option maxHeartbeats 4000000 in
set_option maxRecDepth 100000 in
theorem bytes (r : ResV) (w : World) (hs : r.s.length ≤ 100000) (hk : r.a.kind.length ≤ 100000) (hl : r.a.body.length ≤ 100000) :
    Calls Try.prog 40 #[val76 r] w fun e w' => e = .returned (.string (str (encR r))) ∧ Below w.heap.size w w' := by
  have e0 := u64n_wrap r.errno
  have e1 := u64n_wrap r.h
  have hle : (enc r.a).length ≤ 300000 := by rw [enc_len]; omega
  have Z1 : Hid (¬ 9223372036854775807 < (str (be (u64n r.errno) 1)).size + (str (be (u64n r.h) 8)).size) := by show ¬ _; simp [str_size, be_len]
  have Z2 : Hid (¬ 9223372036854775807 < (str (be (u64n r.errno) 1)).size + (str (be (u64n r.h) 8)).size + (str (textB r.s)).size) := by show ¬ _; simp [str_size, be_len, textB_len]; omega
  have Z3 : Hid (¬ 9223372036854775807 < (str (be (u64n r.errno) 1)).size + (str (be (u64n r.h) 8)).size + (str (textB r.s)).size + (str (textB (enc r.a))).size) := by show ¬ _; simp [str_size, be_len, textB_len]; omega
  unfold val76
  go_enter Try.func40, Try.ntmps40
  go_wp2_with fail
  obtain ⟨b, hb0⟩ : ∃ b, b = w.heap.size := ⟨_, rfl⟩
  obtain ⟨wa, hwa⟩ : ∃ wa, wa = w.alloc (.cells (cells76 r) 76) := ⟨_, rfl⟩
  have HBLK : Hid (wa.heap[b]? = some (.cells (cells76 r) 76 (0, 0))) := by show _ = _; rw [hwa, hb0]; show (w.heap.push _)[w.heap.size]? = _; rw [Array.getElem?_push, if_pos rfl]
  have HLT : Hid (b < wa.heap.size) := by show _ < _; rw [hwa, hb0]; simp
  have HB : Hid (Below w.heap.size w wa) := by rw [hwa]; exact below1 _ _
  have HBS : Hid (w.heap.size ≤ wa.heap.size) := HB.out.size
  rw [show w.alloc (.cells #[.int .i64 r.errno, .int .i64 r.h, .string (str r.s), .int .i64 r.a.sort, .int .i64 r.a.status, .int .i64 r.a.first, .int .i64 r.a.total, .string (str r.a.kind), .string (str r.a.body)] 76) = wa from hwa.symm, ← hb0]
  clear hwa hb0
  refine start_ (n := 19) (S := fun w' => Below wa.heap.size wa w') (ds := []) #[false, false, false, false, false, false, false, false, false, false, false, false, false, false, false, false, false, false, false] (by kernel_rfl) rfl rfl ((Below.refl _ _).drew) (fun hHeld => ?_)
  obtain ⟨wd, hwd⟩ : ∃ wd, wd = World.drew wa := ⟨_, rfl⟩
  rw [← hwd] at hHeld ⊢
  clear hwd
  refine again_ (S' := fun w' => Below wd.heap.size wd w') (Below.refl _ _) (fun w' h => step2 hHeld hHeld.size h) ?_
  replace HBLK : Hid (wd.heap[b]? = some (.cells (cells76 r) 76 (0, 0))) := ((hHeld.block _ HLT.out).trans HBLK.out)
  replace HLT : Hid (b < wd.heap.size) := Nat.lt_of_lt_of_le HLT.out hHeld.size
  replace HB := Lib.hid (HB.out.trans (hHeld.mono HBS.out))
  obtain ⟨C0, C1, C2, C3, C4, C5, C6, C7, C8⟩ := facts76 HBLK.out
  clear hHeld
  have hHeld : Below wd.heap.size wd wd := Below.refl _ _
  refine pure_ (i := 0) (N := some 3) (v := ?_) (a' := ?_) #[true, false, false, false, false, false, false, false, false, false, false, false, false, false, false, false, false, false, false] rfl rfl (by kernel_rfl) (fun _ _ _ h => h) (Or.inl ⟨by rfl, ?_⟩) ?_ ?_
  rotate_left
  · intro w'
    go_simp
    with_reducible rfl
  rotate_left
  · simp only [Act.put, List.setIfInBounds_toArray, List.set_cons_zero, List.set_cons_succ]
    rfl
  refine pure_ (i := 4) (N := some 7) (v := ?_) (a' := ?_) #[true, false, false, false, true, false, false, false, false, false, false, false, false, false, false, false, false, false, false] rfl rfl (by kernel_rfl) (fun _ _ _ h => h) (Or.inl ⟨by rfl, ?_⟩) ?_ ?_
  rotate_left
  · intro w'
    go_simp
    with_reducible rfl
  rotate_left
  · simp only [Act.put, List.setIfInBounds_toArray, List.set_cons_zero, List.set_cons_succ]
    rfl
  refine pure_ (i := 9) (N := some 12) (v := ?_) (a' := ?_) #[true, false, false, false, true, false, false, false, false, true, false, false, false, false, false, false, false, false, false] rfl rfl (by kernel_rfl) (fun _ _ _ h => h) (Or.inl ⟨by rfl, ?_⟩) ?_ ?_
  rotate_left
  · intro w'
    go_simp
    with_reducible rfl
  rotate_left
  · simp only [Act.put, List.setIfInBounds_toArray, List.set_cons_zero, List.set_cons_succ]
    rfl
  refine pure_ (i := 13) (N := some 16) (v := ?_) (a' := ?_) #[true, false, false, false, true, false, false, false, false, true, false, false, false, true, false, false, false, false, false] rfl rfl (by kernel_rfl) (fun _ _ _ h => h) (Or.inl ⟨by rfl, ?_⟩) ?_ ?_
  rotate_left
  · intro w'
    go_simp
    with_reducible rfl
  rotate_left
  · simp only [Act.put, List.setIfInBounds_toArray, List.set_cons_zero, List.set_cons_succ]
    rfl
  refine take_ (i := 1) (N := some 4) (v := ?_) (a' := ?_) #[true, true, false, false, true, false, false, false, false, true, false, false, false, true, false, false, false, false, false] rfl rfl (by kernel_rfl) (fun _ _ _ h => h) (Or.inl ⟨by rfl, ?_⟩) hHeld ?_ ?_
  rotate_left
  · intro w' s0
    have e0 := (s0.cell (p := ⟨b, 0, none⟩) HLT.out).trans C0.out
    go_simp
    with_reducible rfl
  rotate_left
  · simp only [Act.put, List.setIfInBounds_toArray, List.set_cons_zero, List.set_cons_succ]
    rfl
  refine pure_ (i := 2) (N := some 5) (v := ?_) (a' := ?_) #[true, true, true, false, true, false, false, false, false, true, false, false, false, true, false, false, false, false, false] rfl rfl (by kernel_rfl) (fun _ _ _ h => h) (Or.inl ⟨by rfl, ?_⟩) ?_ ?_
  rotate_left
  · intro w'
    go_simp
    with_reducible rfl
  rotate_left
  · simp only [Act.put, List.setIfInBounds_toArray, List.set_cons_zero, List.set_cons_succ]
    rfl
  refine take_ (i := 5) (N := some 8) (v := ?_) (a' := ?_) #[true, true, true, false, true, true, false, false, false, true, false, false, false, true, false, false, false, false, false] rfl rfl (by kernel_rfl) (fun _ _ _ h => h) (Or.inl ⟨by rfl, ?_⟩) hHeld ?_ ?_
  rotate_left
  · intro w' s0
    have e1 := (s0.cell (p := ⟨b, 1, none⟩) HLT.out).trans C1.out
    go_simp
    with_reducible rfl
  rotate_left
  · simp only [Act.put, List.setIfInBounds_toArray, List.set_cons_zero, List.set_cons_succ]
    rfl
  refine pure_ (i := 6) (N := some 9) (v := ?_) (a' := ?_) #[true, true, true, false, true, true, true, false, false, true, false, false, false, true, false, false, false, false, false] rfl rfl (by kernel_rfl) (fun _ _ _ h => h) (Or.inl ⟨by rfl, ?_⟩) ?_ ?_
  rotate_left
  · intro w'
    go_simp
    with_reducible rfl
  rotate_left
  · simp only [Act.put, List.setIfInBounds_toArray, List.set_cons_zero, List.set_cons_succ]
    rfl
  refine take_ (i := 10) (N := some 13) (v := ?_) (a' := ?_) #[true, true, true, false, true, true, true, false, false, true, true, false, false, true, false, false, false, false, false] rfl rfl (by kernel_rfl) (fun _ _ _ h => h) (Or.inl ⟨by rfl, ?_⟩) hHeld ?_ ?_
  rotate_left
  · intro w' s0
    have e2 := (s0.cell (p := ⟨b, 2, none⟩) HLT.out).trans C2.out
    go_simp
    with_reducible rfl
  rotate_left
  · simp only [Act.put, List.setIfInBounds_toArray, List.set_cons_zero, List.set_cons_succ]
    rfl
  refine take_ (i := 14) (N := some 17) (v := ?_) (a' := ?_) #[true, true, true, false, true, true, true, false, false, true, true, false, false, true, true, false, false, false, false] rfl rfl (by kernel_rfl) (fun _ _ _ h => h) (Or.inl ⟨by rfl, ?_⟩) hHeld ?_ ?_
  rotate_left
  · intro w' s0
    have e3 := (s0.cell (p := ⟨b, 3, none⟩) HLT.out).trans C3.out
    have e4 := (s0.cell (p := ⟨b, 4, none⟩) HLT.out).trans C4.out
    have e5 := (s0.cell (p := ⟨b, 5, none⟩) HLT.out).trans C5.out
    have e6 := (s0.cell (p := ⟨b, 6, none⟩) HLT.out).trans C6.out
    have e7 := (s0.cell (p := ⟨b, 7, none⟩) HLT.out).trans C7.out
    have e8 := (s0.cell (p := ⟨b, 8, none⟩) HLT.out).trans C8.out
    go_simp
    with_reducible rfl
  rotate_left
  · simp only [Act.put, List.setIfInBounds_toArray, List.set_cons_zero, List.set_cons_succ]
    rfl
  refine one_ (i := 3) (N := some 6) #[true, true, true, true, true, true, true, false, false, true, true, false, false, true, true, false, false, false, false] rfl rfl (by kernel_rfl) (by decide) (fun K hK => ?_)
  refine goes_ Try.func30 (by kernel_rfl) rfl #[.int .u64 (u64n r.errno : Int), .int .i64 (1 : Int)] (by rfl) rfl rfl (by first | rfl | (simp only [List.map_toArray, List.map_cons, List.map_nil]; rfl)) ?_
  refine (RefW.number (u64n r.errno) 1 _ (u64n_lt _) (by omega)).mono ?_
  rintro e w3 ⟨rfl, hb⟩
  refine ⟨_, rfl, ?_⟩
  refine hK.out _ _ (step2 hHeld hHeld.size hb) (fun hHeld' => ?_)
  clear hK K hHeld'
  refine norm_ (a' := ?_) ?_ ?_
  rotate_left
  · show Act.put _ (some 6) _ = _
    simp only [Act.put, List.setIfInBounds_toArray, List.set_cons_zero, List.set_cons_succ]
    rfl
  replace hHeld := step2 hHeld hHeld.size hb
  clear hb
  refine one_ (i := 7) (N := some 10) #[true, true, true, true, true, true, true, true, false, true, true, false, false, true, true, false, false, false, false] rfl rfl (by kernel_rfl) (by decide) (fun K hK => ?_)
  refine goes_ Try.func30 (by kernel_rfl) rfl #[.int .u64 (u64n r.h : Int), .int .i64 (8 : Int)] (by rfl) rfl rfl (by first | rfl | (simp only [List.map_toArray, List.map_cons, List.map_nil]; rfl)) ?_
  refine (RefW.number (u64n r.h) 8 _ (u64n_lt _) (by omega)).mono ?_
  rintro e w3 ⟨rfl, hb⟩
  refine ⟨_, rfl, ?_⟩
  refine hK.out _ _ (step2 hHeld hHeld.size hb) (fun hHeld' => ?_)
  clear hK K hHeld'
  refine norm_ (a' := ?_) ?_ ?_
  rotate_left
  · show Act.put _ (some 10) _ = _
    simp only [Act.put, List.setIfInBounds_toArray, List.set_cons_zero, List.set_cons_succ]
    rfl
  replace hHeld := step2 hHeld hHeld.size hb
  clear hb
  refine pure_ (i := 8) (N := some 11) (v := ?_) (a' := ?_) #[true, true, true, true, true, true, true, true, true, true, true, false, false, true, true, false, false, false, false] rfl rfl (by kernel_rfl) (fun _ _ _ h => h) (Or.inl ⟨by rfl, ?_⟩) ?_ ?_
  rotate_left
  · intro w'
    have z := Z1.out
    go_simp
    with_reducible rfl
  rotate_left
  · simp only [Act.put, List.setIfInBounds_toArray, List.set_cons_zero, List.set_cons_succ]
    rfl
  refine one_ (i := 11) (N := some 14) #[true, true, true, true, true, true, true, true, true, true, true, true, false, true, true, false, false, false, false] rfl rfl (by kernel_rfl) (by decide) (fun K hK => ?_)
  refine goes_ Try.func34 (by kernel_rfl) rfl #[.string (str r.s)] (by rfl) rfl rfl (by first | rfl | (simp only [List.map_toArray, List.map_cons, List.map_nil]; rfl)) ?_
  refine (RefW.string r.s _ (by omega)).mono ?_
  rintro e w3 ⟨rfl, hb⟩
  refine ⟨_, rfl, ?_⟩
  refine hK.out _ _ (step2 hHeld hHeld.size hb) (fun hHeld' => ?_)
  clear hK K hHeld'
  refine norm_ (a' := ?_) ?_ ?_
  rotate_left
  · show Act.put _ (some 14) _ = _
    simp only [Act.put, List.setIfInBounds_toArray, List.set_cons_zero, List.set_cons_succ]
    rfl
  replace hHeld := step2 hHeld hHeld.size hb
  clear hb
  refine pure_ (i := 12) (N := some 15) (v := ?_) (a' := ?_) #[true, true, true, true, true, true, true, true, true, true, true, true, true, true, true, false, false, false, false] rfl rfl (by kernel_rfl) (fun _ _ _ h => h) (Or.inl ⟨by rfl, ?_⟩) ?_ ?_
  rotate_left
  · intro w'
    have z := Z2.out
    go_simp
    with_reducible rfl
  rotate_left
  · simp only [Act.put, List.setIfInBounds_toArray, List.set_cons_zero, List.set_cons_succ]
    rfl
  refine one_ (i := 15) (N := some 18) #[true, true, true, true, true, true, true, true, true, true, true, true, true, true, true, true, false, false, false] rfl rfl (by kernel_rfl) (by decide) (fun K hK => ?_)
  refine goes_ Try.func16 (by kernel_rfl) rfl #[RefEnc.rval r.a] (by rfl) rfl rfl (by first | rfl | (simp only [List.map_toArray, List.map_cons, List.map_nil]; rfl)) ?_
  refine (RefEnc.encode r.a _ hk hl).mono ?_
  rintro e w3 ⟨rfl, hb⟩
  refine ⟨_, rfl, ?_⟩
  refine hK.out _ _ (step2 hHeld hHeld.size hb) (fun hHeld' => ?_)
  clear hK K hHeld'
  refine norm_ (a' := ?_) ?_ ?_
  rotate_left
  · show Act.put _ (some 18) _ = _
    simp only [Act.put, List.setIfInBounds_toArray, List.set_cons_zero, List.set_cons_succ]
    rfl
  replace hHeld := step2 hHeld hHeld.size hb
  clear hb
  refine one_ (i := 16) (N := some 19) #[true, true, true, true, true, true, true, true, true, true, true, true, true, true, true, true, true, false, false] rfl rfl (by kernel_rfl) (by decide) (fun K hK => ?_)
  refine goes_ Try.func34 (by kernel_rfl) rfl #[.string (str (enc r.a))] (by rfl) rfl rfl (by first | rfl | (simp only [List.map_toArray, List.map_cons, List.map_nil]; rfl)) ?_
  refine (RefW.string (enc r.a) _ (by omega)).mono ?_
  rintro e w3 ⟨rfl, hb⟩
  refine ⟨_, rfl, ?_⟩
  refine hK.out _ _ (step2 hHeld hHeld.size hb) (fun hHeld' => ?_)
  clear hK K hHeld'
  refine norm_ (a' := ?_) ?_ ?_
  rotate_left
  · show Act.put _ (some 19) _ = _
    simp only [Act.put, List.setIfInBounds_toArray, List.set_cons_zero, List.set_cons_succ]
    rfl
  replace hHeld := step2 hHeld hHeld.size hb
  clear hb
  refine pure_ (i := 17) (N := some 20) (v := ?_) (a' := ?_) #[true, true, true, true, true, true, true, true, true, true, true, true, true, true, true, true, true, true, false] rfl rfl (by kernel_rfl) (fun _ _ _ h => h) (Or.inl ⟨by rfl, ?_⟩) ?_ ?_
  rotate_left
  · intro w'
    have z := Z3.out
    go_simp
    with_reducible rfl
  rotate_left
  · simp only [Act.put, List.setIfInBounds_toArray, List.set_cons_zero, List.set_cons_succ]
    rfl
  refine pure_ (i := 18) (N := some 2) (v := ?_) (a' := ?_) #[true, true, true, true, true, true, true, true, true, true, true, true, true, true, true, true, true, true, true] rfl rfl (by kernel_rfl) (fun _ _ _ h => h) (Or.inl ⟨by rfl, ?_⟩) ?_ ?_
  rotate_left
  · intro w'
    go_simp
    with_reducible rfl
  rotate_left
  · simp only [Act.put, List.setIfInBounds_toArray, List.set_cons_zero, List.set_cons_succ]
    rfl
  refine done_ (by kernel_rfl) ?_
  go_wp2
  go_ret
  refine ⟨?_, HB.out.trans (hHeld.mono (by have := HB.out.size; omega))⟩
  rw [← encR_wide r]
  simp only [← str_append]
  rfl
set_option maxHeartbeats 4000000 in
set_option maxRecDepth 100000 in
theorem result (r : ResV) (A : Option Addr) (c : Nat) (w : World) (hb : Rd w A r.a.body) :
    Calls Try.prog 41 #[val72 r A c] w fun e w' => e = .returned (val76 r) ∧ Below w.heap.size w w' := by
  unfold val72
  have RA0 := Lib.hid hb
  clear hb
  go_enter Try.func41, Try.ntmps41
  go_wp2_with fail
  obtain ⟨b, hb0⟩ : ∃ b, b = w.heap.size := ⟨_, rfl⟩
  obtain ⟨wa, hwa⟩ : ∃ wa, wa = (w.alloc (.cells (cells72 r A c) 72)).alloc (.cells z76 76) := ⟨_, rfl⟩
  have HBLK : Hid (wa.heap[b]? = some (.cells (cells72 r A c) 72 (0, 0))) := by show _ = _; rw [hwa, hb0, Below.heap_alloc _ _ _ (by simp)]; exact heap_alloc_last w _
  have HZ : Hid (wa.heap[b + 1]? = some (.cells z76 76 (0, 0))) := by
    show _ = _
    have h1 := heap_alloc_last (w.alloc (.cells (cells72 r A c) 72)) (.cells z76 76)
    rw [hwa, hb0]; simpa using h1
  have HLT : Hid (b + 1 < wa.heap.size) := by show _ < _; rw [hwa, hb0]; simp
  have HL0 : Hid (b < wa.heap.size) := by show _ < _; have := HLT.out; omega
  have HB : Hid (Below w.heap.size w wa) := by rw [hwa]; exact ((Below.refl _ _).alloc (Nat.le_refl _) _).alloc (by simp) _
  have HBE : Hid (w.heap.size = b) := hb0.symm
  have RA : Hid (Rd wa A r.a.body) := RA0.out.below HB.out
  rw [show (w.alloc (.cells #[.int .i64 r.errno, .int .i64 r.h, .string (str r.s), .int .i64 r.a.sort, .int .i64 r.a.status, .int .i64 r.a.first, .int .i64 r.a.total, .string (str r.a.kind), .slice A r.a.body.length c] 72)).alloc (.cells #[.int .i64 0, .int .i64 0, .string ⟨#[]⟩, .int .i64 0, .int .i64 0, .int .i64 0, .int .i64 0, .string ⟨#[]⟩, .string ⟨#[]⟩] 76) = wa from hwa.symm, ← hb0]
  clear hwa hb0 RA0
  obtain ⟨C0, C1, C2, C3, C4, C5, C6, C7, C8⟩ := facts72h HBLK.out
  refine start_ (n := 11) (S := fun w' => Below wa.heap.size wa w') (ds := [10]) #[false, false, false, false, false, false, false, false, false, false, false] (by kernel_rfl) rfl rfl ((Below.refl _ _).drew) (fun hHeld => ?_)
  obtain ⟨wd, hwd⟩ : ∃ wd, wd = World.drew wa := ⟨_, rfl⟩
  rw [← hwd] at hHeld ⊢
  clear hwd
  refine pure_ (i := 0) (N := some 3) (v := ?_) (a' := ?_) #[true, false, false, false, false, false, false, false, false, false, false] rfl rfl (by kernel_rfl) (fun _ _ _ h => h) (Or.inl ⟨by rfl, ?_⟩) ?_ ?_
  rotate_left
  · intro w'
    go_simp
    with_reducible rfl
  rotate_left
  · simp only [Act.put, List.setIfInBounds_toArray, List.set_cons_zero, List.set_cons_succ]
    rfl
  refine pure_ (i := 2) (N := some 5) (v := ?_) (a' := ?_) #[true, false, true, false, false, false, false, false, false, false, false] rfl rfl (by kernel_rfl) (fun _ _ _ h => h) (Or.inl ⟨by rfl, ?_⟩) ?_ ?_
  rotate_left
  · intro w'
    go_simp
    with_reducible rfl
  rotate_left
  · simp only [Act.put, List.setIfInBounds_toArray, List.set_cons_zero, List.set_cons_succ]
    rfl
  refine pure_ (i := 4) (N := some 7) (v := ?_) (a' := ?_) #[true, false, true, false, true, false, false, false, false, false, false] rfl rfl (by kernel_rfl) (fun _ _ _ h => h) (Or.inl ⟨by rfl, ?_⟩) ?_ ?_
  rotate_left
  · intro w'
    go_simp
    with_reducible rfl
  rotate_left
  · simp only [Act.put, List.setIfInBounds_toArray, List.set_cons_zero, List.set_cons_succ]
    rfl
  refine pure_ (i := 6) (N := some 9) (v := ?_) (a' := ?_) #[true, false, true, false, true, false, true, false, false, false, false] rfl rfl (by kernel_rfl) (fun _ _ _ h => h) (Or.inl ⟨by rfl, ?_⟩) ?_ ?_
  rotate_left
  · intro w'
    go_simp
    with_reducible rfl
  rotate_left
  · simp only [Act.put, List.setIfInBounds_toArray, List.set_cons_zero, List.set_cons_succ]
    rfl
  refine take_ (i := 1) (N := some 4) (v := ?_) (a' := ?_) #[true, true, true, false, true, false, true, false, false, false, false] rfl rfl (by kernel_rfl) (fun _ _ _ h => h) (Or.inl ⟨by rfl, ?_⟩) hHeld ?_ ?_
  rotate_left
  · intro w' s0
    have e0 := (s0.cell (p := ⟨b, 0, none⟩) HL0.out).trans C0.out
    go_simp
    with_reducible rfl
  rotate_left
  · simp only [Act.put, List.setIfInBounds_toArray, List.set_cons_zero, List.set_cons_succ]
    rfl
  refine take_ (i := 3) (N := some 6) (v := ?_) (a' := ?_) #[true, true, true, true, true, false, true, false, false, false, false] rfl rfl (by kernel_rfl) (fun _ _ _ h => h) (Or.inl ⟨by rfl, ?_⟩) hHeld ?_ ?_
  rotate_left
  · intro w' s0
    have e1 := (s0.cell (p := ⟨b, 1, none⟩) HL0.out).trans C1.out
    go_simp
    with_reducible rfl
  rotate_left
  · simp only [Act.put, List.setIfInBounds_toArray, List.set_cons_zero, List.set_cons_succ]
    rfl
  refine take_ (i := 5) (N := some 8) (v := ?_) (a' := ?_) #[true, true, true, true, true, true, true, false, false, false, false] rfl rfl (by kernel_rfl) (fun _ _ _ h => h) (Or.inl ⟨by rfl, ?_⟩) hHeld ?_ ?_
  rotate_left
  · intro w' s0
    have e2 := (s0.cell (p := ⟨b, 2, none⟩) HL0.out).trans C2.out
    go_simp
    with_reducible rfl
  rotate_left
  · simp only [Act.put, List.setIfInBounds_toArray, List.set_cons_zero, List.set_cons_succ]
    rfl
  refine take_ (i := 7) (N := some 10) (v := ?_) (a' := ?_) #[true, true, true, true, true, true, true, true, false, false, false] rfl rfl (by kernel_rfl) (fun _ _ _ h => h) (Or.inl ⟨by rfl, ?_⟩) hHeld ?_ ?_
  rotate_left
  · intro w' s0
    have e3 := (s0.cell (p := ⟨b, 3, none⟩) HL0.out).trans C3.out
    have e4 := (s0.cell (p := ⟨b, 4, none⟩) HL0.out).trans C4.out
    have e5 := (s0.cell (p := ⟨b, 5, none⟩) HL0.out).trans C5.out
    have e6 := (s0.cell (p := ⟨b, 6, none⟩) HL0.out).trans C6.out
    have e7 := (s0.cell (p := ⟨b, 7, none⟩) HL0.out).trans C7.out
    have e8 := (s0.cell (p := ⟨b, 8, none⟩) HL0.out).trans C8.out
    go_simp
    with_reducible rfl
  rotate_left
  · simp only [Act.put, List.setIfInBounds_toArray, List.set_cons_zero, List.set_cons_succ]
    rfl
  refine one_ (i := 8) (N := some 11) #[true, true, true, true, true, true, true, true, true, false, false] rfl rfl (by kernel_rfl) (by decide) (fun K hK => ?_)
  refine goes_ Try.func51 (by kernel_rfl) rfl #[val r.a A c] (by rfl) rfl rfl (by first | rfl | (simp only [List.map_toArray, List.map_cons, List.map_nil]; rfl)) ?_
  refine (Of.of26 r.a A c _ (RA.out.below hHeld)).mono ?_
  rintro e w3 ⟨rfl, hb⟩
  refine ⟨_, rfl, ?_⟩
  refine hK.out _ _ (step2 hHeld hHeld.size hb) (fun hHeld' => ?_)
  clear hK K hHeld
  have hHeld := hHeld'
  clear hHeld'
  refine norm_ (a' := ?_) ?_ ?_
  rotate_left
  · show Act.put _ (some 11) _ = _
    simp only [Act.put, List.setIfInBounds_toArray, List.set_cons_zero, List.set_cons_succ]
    rfl
  clear hb
  refine pure_ (i := 9) (N := some 12) (v := ?_) (a' := ?_) #[true, true, true, true, true, true, true, true, true, true, false] rfl rfl (by kernel_rfl) (fun _ _ _ h => h) (Or.inl ⟨by rfl, ?_⟩) ?_ ?_
  rotate_left
  · intro w'
    refine Eq.trans (run_built 76 #[(0, .tmp 4), (1, .tmp 6), (2, .tmp 8), (3, .tmp 11)] rfl [(0, .int .i64 r.errno), (1, .int .i64 r.h), (2, .string (str r.s)), (3, rval r.a)] (by first | rfl | (simp only [List.map_toArray, List.map_cons, List.map_nil]; rfl)) (cells76 r) (built76 r)) ?_
    with_reducible rfl
  rotate_left
  · simp only [Act.put, List.setIfInBounds_toArray, List.set_cons_zero, List.set_cons_succ]
    rfl
  refine last_ (i := 10) (N := none) #[true, true, true, true, true, true, true, true, true, true, true] rfl rfl (by kernel_rfl) (by decide) (fun K hK => ?_)
  refine skip_ (w1 := w3.setRow (b + 1) (cells76 r)) (by rfl) rfl ?_ ?_
  · exact run_store_row 76 (.tmp 2) (.tmp 12) rfl (b + 1) (cells76 r) (by rfl) (by rfl) 76 _ ((hHeld.block _ HLT.out).trans HZ.out) i76s rfl (one76 r)
  refine hK.out _ _ ?_
  clear hK K
  refine done_ (by kernel_rfl) ?_
  go_wp2
  refine bodyPost_ret (Dec.results_c rfl _ _ (b + 1) 76 (cells76 r) (0, 0) _ (by rfl) (setRow_heap w3 (b + 1) _ (cells76 r) 76 (0, 0) ((hHeld.block _ HLT.out).trans HZ.out)) Try.underlying76 rfl i76s) rfl ?_
  refine ⟨rfl, below_setRow (HB.out.trans (hHeld.mono HB.out.size)) (by rw [HBE.out]; omega) _⟩
end Go.Proofs.Ytdojhdglbajinaa.ScrRef
