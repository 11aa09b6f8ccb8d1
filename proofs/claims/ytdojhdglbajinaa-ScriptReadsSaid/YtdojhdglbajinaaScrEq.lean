/- DERIVED. An operation is equal to itself ('==' of structs), in both spellings of its type. -/
import Derived.Test.YtdojhdglbajinaaScrOf
import Derived.Laws.StructEq
import Derived.Stop.BytesEq
namespace Go.Proofs.Ytdojhdglbajinaa.ScrEq
open Go.RowKit Go.Proofs.Ytdojhdglbajinaa.Mem Go.Proofs.Ytdojhdglbajinaa.ScrOp Go.Proofs.Ytdojhdglbajinaa.ScrOf
set_option linter.unusedVariables false
set_option linter.unusedSimpArgs false
theorem eqFields_refl {P : Program} (d : Nat) (xs : Array Value) : ∀ (fs : List Field), (∀ f ∈ fs, ∃ v, ∀ w, (part f.type xs f.offset).run P w = .ok v w ∧ (Op.equalIn d f.type v v).run P w = .ok true w) → ∀ w, (Op.eqFields d xs xs fs).run P w = .ok true w
  | [], _, w => by simp [Op.eqFields]
  | f :: fs, h, w => by
    obtain ⟨v, hv⟩ := h f (by simp)
    have ih := eqFields_refl d xs fs (fun g hg => h g (by simp [hg])) w
    unfold Op.eqFields
    split
    · simp only [Sem.run_bind, (hv w).1, Result.andThen_ok, (hv w).2, Bool.not_true, Bool.false_eq_true, if_false]
      exact ih
    · exact ih
theorem part_cell {P : Program} {t : TypeId} (ha : ∀ w, (isAgg t).run P w = .ok false w) {cs : Array Value} {off : Nat} {v : Value} (h : cs[off]? = some v) (w : World) : (part t cs off).run P w = .ok v w := by
  simp [part, Sem.run_bind, ha, h]
theorem notagg {t : TypeId} {d : TypeDesc} (h : Try.prog.underlying t = some d) (hd : d.isRow = false) (w : World) : (isAgg t).run Try.prog w = .ok false w := by
  unfold isAgg
  rw [Sem.run_bind, run_underlying h w]
  cases d <;> simp_all
theorem part_agg {P : Program} {t : TypeId} {d : TypeDesc} (h : P.underlying t = some d) (hd : d.isRow = true) {n : Nat} (hi : (P.info? t).map (·.size) = some n) (cs : Array Value) (off : Nat) (w : World) : (part t cs off).run P w = .ok (.agg (cs.extract off (off + n))) w := by
  have hagg : (isAgg t).run P w = .ok true w := by
    unfold isAgg
    rw [Sem.run_bind, run_underlying h w]
    cases d <;> simp_all
  cases hq : P.info? t with
  | none => simp [hq] at hi
  | some i =>
    have hs : i.size = n := by simpa [hq] using hi
    simp [part, Sem.run_bind, hagg, sizeOf, typeInfo, hq, hs]
theorem eq_int (d : Nat) (t : TypeId) (k : IntKind) (a : Int) (h : Try.prog.underlying t = some (.int k)) (w : World) : (Op.equalIn (d + 1) t (.int k a) (.int k a)).run Try.prog w = .ok true w := by
  rw [run_equalIn_int w d t k k a a h]; simp
theorem eq_str (d : Nat) (t : TypeId) (a : ByteArray) (h : Try.prog.underlying t = some .string) (w : World) : (Op.equalIn (d + 1) t (.string a) (.string a)).run Try.prog w = .ok true w := by
  rw [run_equalIn_string w d t a a h]; simp
theorem i5 (w : World) : (sizeOf 5).run Try.prog w = .ok 1 w := by
  cases hq : Try.prog.info? 5 with
  | none => have := i86s; have h := ScrEnc.i5s; simp [hq] at h
  | some i => have h := ScrEnc.i5s; simp [hq] at h; simp [sizeOf, typeInfo, hq, h]
theorem eq_org (d : Nat) (s h : ByteArray) (p n : Int) (w : World) : (Op.equalIn (d + 2) 85 (.agg #[.string s, .string h, .int .i64 p, .int .i64 n]) (.agg #[.string s, .string h, .int .i64 p, .int .i64 n])).run Try.prog w = .ok true w := by
  have hS : Try.prog.underlying 85 = some (.struct (Try.prog.fieldsOf 85)) := by kernel_rfl
  have hp : Try.prog.stoodInHeld 85 = false := by kernel_rfl
  rw [run_equalIn_struct w (d + 1) 85 _ _ hS hp]
  refine eqFields_refl (d + 1) _ _ (fun f hf => ?_) w
  simp only [Program.fieldsOf, Try.underlying85, List.mem_cons, List.not_mem_nil, or_false] at hf
  rcases hf with rfl | rfl | rfl | rfl
  · exact ⟨.string s, fun w => ⟨part_cell (notagg Try.underlying9 rfl) rfl w, eq_str d 9 s Try.underlying9 w⟩⟩
  · exact ⟨.string h, fun w => ⟨part_cell (notagg Try.underlying9 rfl) rfl w, eq_str d 9 h Try.underlying9 w⟩⟩
  · exact ⟨.int .i64 p, fun w => ⟨part_cell (notagg Try.underlying3 rfl) rfl w, eq_int d 3 .i64 p Try.underlying3 w⟩⟩
  · exact ⟨.int .i64 n, fun w => ⟨part_cell (notagg Try.underlying2 rfl) rfl w, eq_int d 2 .i64 n Try.underlying2 w⟩⟩
theorem ex_org (o : OpV) : (opCells o).toArray.extract 7 (7 + 4) = #[.string (str o.sch), .string (str o.host), .int .i64 o.port, .int .i64 o.nonce] := by
  apply Array.toList_inj.1
  simp [opCells, Array.toList_extract, List.extract]
theorem ex_r (o : OpV) (h : o.r.length = 16) : (opCells o).toArray.extract 11 (11 + 16) = (o.r.map Extern.Stop.cell).toArray := by
  apply Array.toList_inj.1
  simp [opCells, Array.toList_extract, List.extract]
  rw [List.take_of_length_le (by simp [h])]
  rfl
theorem eq_fields (o : OpV) (h : o.r.length = 16) (f : Field) (hf : f ∈ (Try.prog.fieldsOf 88).toList) : ∃ v, ∀ w, (part f.type (opCells o).toArray f.offset).run Try.prog w = .ok v w ∧ (Op.equalIn 9999 f.type v v).run Try.prog w = .ok true w := by
  simp only [Program.fieldsOf, Try.underlying88, List.mem_cons, List.not_mem_nil, or_false] at hf
  rcases hf with rfl | rfl | rfl | rfl | rfl | rfl | rfl | rfl | rfl
  · exact ⟨_, fun w => ⟨part_cell (notagg Try.underlying5 rfl) rfl w, eq_int 9998 5 .u8 _ Try.underlying5 w⟩⟩
  · exact ⟨_, fun w => ⟨part_cell (notagg Try.underlying5 rfl) rfl w, eq_int 9998 5 .u8 _ Try.underlying5 w⟩⟩
  · exact ⟨_, fun w => ⟨part_cell (notagg Try.underlying2 rfl) rfl w, eq_int 9998 2 .i64 _ Try.underlying2 w⟩⟩
  · exact ⟨_, fun w => ⟨part_cell (notagg Try.underlying2 rfl) rfl w, eq_int 9998 2 .i64 _ Try.underlying2 w⟩⟩
  · exact ⟨_, fun w => ⟨part_cell (notagg Try.underlying2 rfl) rfl w, eq_int 9998 2 .i64 _ Try.underlying2 w⟩⟩
  · exact ⟨_, fun w => ⟨part_cell (notagg Try.underlying9 rfl) rfl w, eq_str 9998 9 _ Try.underlying9 w⟩⟩
  · exact ⟨_, fun w => ⟨part_cell (notagg Try.underlying9 rfl) rfl w, eq_str 9998 9 _ Try.underlying9 w⟩⟩
  · refine ⟨_, fun w => ⟨part_agg Try.underlying85 rfl i85s _ _ w, ?_⟩⟩
    rw [ex_org]
    exact eq_org 9997 _ _ _ _ w
  · refine ⟨_, fun w => ⟨part_agg Try.underlying86 rfl i86s _ _ w, ?_⟩⟩
    rw [ex_r o h, run_equalIn_bytes w 9997 86 5 16 Try.underlying86 Try.underlying5 i5 o.r o.r h h]
    simp
theorem eq88 (o : OpV) (h : o.r.length = 16) (w : World) : (Op.equalIn 10000 88 (.agg (opCells o).toArray) (.agg (opCells o).toArray)).run Try.prog w = .ok true w := by
  have hS : Try.prog.underlying 88 = some (.struct (Try.prog.fieldsOf 88)) := by kernel_rfl
  have hp : Try.prog.stoodInHeld 88 = false := by kernel_rfl
  rw [show (10000 : Nat) = 9999 + 1 from rfl, run_equalIn_struct w 9999 88 _ _ hS hp]
  exact eqFields_refl 9999 _ _ (eq_fields o h) w
theorem eq91 (o : OpV) (h : o.r.length = 16) (w : World) : (Op.equalIn 10000 91 (.agg (opCells o).toArray) (.agg (opCells o).toArray)).run Try.prog w = .ok true w := by
  have hS : Try.prog.underlying 91 = some (.struct (Try.prog.fieldsOf 91)) := by kernel_rfl
  have hp : Try.prog.stoodInHeld 91 = false := by kernel_rfl
  have he : Try.prog.fieldsOf 91 = Try.prog.fieldsOf 88 := by simp only [Program.fieldsOf, Try.underlying91, Try.underlying88]
  rw [show (10000 : Nat) = 9999 + 1 from rfl, run_equalIn_struct w 9999 91 _ _ hS hp, he]
  exact eqFields_refl 9999 _ _ (eq_fields o h) w
theorem g88 : Try.prog.eqGuardType Try.prog.depth 88 = false := by kernel_rfl
theorem g91 : Try.prog.eqGuardType Try.prog.depth 91 = false := by kernel_rfl
section
variable {o' : Oper} {a : Act} {w : World}
/-- '!=' of an operation with itself. -/
theorem run_neq (t : TypeId) (x y : Operand) (ho : o'.op = .binOp .neq t x y t) (hg : Try.prog.eqGuardType Try.prog.depth t = false) (cs : Array Value) (he : ∀ w, (Op.equalIn 10000 t (.agg cs) (.agg cs)).run Try.prog w = .ok true w)
    (hx : a.eval x = .agg cs) (hy : a.eval y = .agg cs) : (execOp a.eval o').run Try.prog w = .ok (.value (.bool false)) w := by
  unfold execOp
  simp only [ho, hx, hy, Sem.run_bind, run_eqGuard_agg w .neq t x y cs cs hg, Result.andThen_ok, run_neq_struct, he, Bool.not_true, Sem.run_pure]
theorem run_load_mid (ty : TypeId) (x : Operand) (ho : o'.op = .load ty x) (b f : Nat) (hx : a.eval x = .pointer (some ⟨b, f, none⟩)) (cs : List Value) (d : TypeDesc) (hc : w.rangeAt b f cs)
    (hu : Try.prog.underlying ty = some d) (hd : d.isRow = true) (hi : (Try.prog.info? ty).map (·.size) = some cs.length) : (execOp a.eval o').run Try.prog w = .ok (.value (.agg cs.toArray)) w := by
  unfold execOp
  simp only [ho, hx, Instr.loadAt, Instr.sureAddr, Sem.run_bind, Sem.run_pure, Result.andThen_ok, run_loadVar_mid w b f ty cs d hc hu hd hi]
end
end Go.Proofs.Ytdojhdglbajinaa.ScrEq
