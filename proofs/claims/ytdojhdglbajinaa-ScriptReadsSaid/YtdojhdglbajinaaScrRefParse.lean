/- DERIVED. The document's reader of operations. -/
import Derived.Test.YtdojhdglbajinaaScrOne
namespace Go.Proofs.Ytdojhdglbajinaa.ScrRefParse
open Go.RowKit Go.Proofs.Ytdojhdglbajinaa.Mem Go.Proofs.Ytdojhdglbajinaa.Writer Go.Proofs.Ytdojhdglbajinaa.Reader Go.Proofs.Ytdojhdglbajinaa.Enc Go.Proofs.Ytdojhdglbajinaa.Plain Go.Proofs.Ytdojhdglbajinaa.ScrOp Go.Proofs.Ytdojhdglbajinaa.ScrTake Go.Proofs.Ytdojhdglbajinaa.ScrParse Go.Proofs.Ytdojhdglbajinaa.ScrOf Go.Proofs.Ytdojhdglbajinaa.ScrOne
set_option linter.unusedVariables false
set_option linter.unusedSimpArgs false

/-- Between two rounds. -/
structure PR (w wk : World) (l : List UInt8) (out : List OpV) (l' : List UInt8) (v : Value) : Prop where
  far : Far l out (l', false)
  row : wk.ownsRow w.heap.size 91 27 v out.length (out.flatMap opCells)
  below : Below w.heap.size w wk
theorem PR.on {w wk wl : World} {l l' : List UInt8} {out : List OpV} {v : Value} (h : PR w wk l out l' v) (hb : Below wk.heap.size wk wl) : PR w wl l out l' v :=
  ⟨h.far, own_below h.row hb, h.below.trans (hb.mono h.below.size)⟩
theorem PR.put {w wk wl : World} {l l' : List UInt8} {out : List OpV} {v v' : Value} {X : Obj} (h : PR w wk l out l' v) (hl : 0 < l'.length) (hq : (qE l').2 = false) (h1 : wl.ownsRow w.heap.size 91 27 v' (out.length + 1) (out.flatMap opCells ++ opCells (opR l'))) (h2 : (wk.alloc X).grownBy wl v.ownBlock) : PR w wl l (out ++ [opR l']) (qE l').1 v' := by
  refine ⟨?_, ?_, grown_below h.below rfl h.row h2⟩
  · have := Far.step h.far hl
    rw [show qE l' = ((qE l').1, false) by rw [← hq]] at this
    exact this
  · rw [List.length_append, List.flatMap_append]
    simpa using h1
theorem boxed {w w1 : World} {C : Array Value} (h1 : Below (w.alloc (.cells Z 91)).heap.size (w.alloc (.cells Z 91)) w1) : w1.heap[w.heap.size]? = some (.cells Z 91 (0, 0)) ∧ (w1.setRow w.heap.size C).heap[w.heap.size]? = some (.cells C 91 (0, 0)) ∧ Below w.heap.size w (w1.setRow w.heap.size C) := by
  have hb : w1.heap[w.heap.size]? = some (.cells Z 91 (0, 0)) := (h1.block _ (by simp)).trans (heap_alloc_last w _)
  exact ⟨hb, setRow_heap w1 _ _ C 91 (0, 0) hb, below_setRow ((below1 w _).trans (h1.mono (by simp))) (Nat.le_refl _) _⟩
def szV : Value → Nat | .string s => s.size | _ => 0
theorem oneOk {l : List UInt8} (w : World) (hl : l.length ≤ 1000000) (hq : (qE l).2 = false) : Calls Try.prog 53 #[.string (str l)] w fun e w' => e = .returned (.tuple #[.agg (opCells (opR l)).toArray, .string (str (qE l).1), .bool true]) ∧ Below w.heap.size w w' :=
  (ScrOne.one l w hl).mono fun e w' ⟨h1, h2⟩ => by
    rcases h2 with ⟨_, h⟩ | ⟨h, _⟩
    · exact ⟨h, h1⟩
    · rw [hq] at h; cases h
theorem oneNo {l : List UInt8} (w : World) (hl : l.length ≤ 1000000) (hq : (qE l).2 = true) : Calls Try.prog 53 #[.string (str l)] w fun e w' => e = .returned (.tuple #[.agg Z, .string (str []), .bool false]) ∧ Below w.heap.size w w' :=
  (ScrOne.one l w hl).mono fun e w' ⟨h1, h2⟩ => by
    rcases h2 with ⟨h, _⟩ | ⟨_, h⟩
    · rw [hq] at h; cases h
    · exact ⟨h, h1⟩
set_option maxHeartbeats 1000000 in
set_option maxRecDepth 100000 in
theorem parse (l : List UInt8) (w : World) (hl : l.length ≤ 1000000) :
    Calls Try.prog 45 #[.string (str l)] w fun e w' => ∃ (os : List OpV) (B : Option Addr) (c' : Nat) (ok : Bool), e = .returned (.tuple #[.slice B os.length c', .bool ok]) ∧ Below w.heap.size w w' ∧ os.length ≤ c' ∧
      ((ok = true ∧ Is os l ∧ RdO w' B os) ∨ (ok = false ∧ ∀ os', ¬ Is os' l)) := by
  obtain ⟨i0, hi0, hz0, hz1, hz2⟩ := info_parts z91
  go_enter Try.func45, Try.ntmps45
  go_wp2_with fail
  go_loopw [0, 4] (fun s v wr => ∃ (out : List OpV) (l' : List UInt8), s = .string (str l') ∧ Hid (PR w wr l out l' v)) (fun s _ _ => szV s)
  case atStart => exact ⟨[], l, rfl, ⟨.start, World.ownsRow_nil _ _ _ _, Below.refl _ _⟩⟩
  case round =>
    obtain ⟨out, l', rfl, HP⟩ := hrel
    have hl' : l'.length ≤ l.length := HP.out.far.len
    have hfew := Far.few HP.out.far (by omega)
    obtain ⟨A', c', rfl, hnc⟩ := own_form27 HP.out.row
    have hsz := str_size l'
    by_cases h0 : 0 < l'.length
    · have hem : (str l').toList.isEmpty = false := by
        rw [str_toList]; cases l' with
        | nil => simp at h0
        | cons x y => rfl
      cases hq : (qE l').2 with
      | true =>
        have HQ := Lib.hid hq
        have HBAD : Hid (∀ os', ¬ Is os' l) := (Far.step HP.out.far h0).none hq
        clear hq
        go_wp2_with (first
          | (go_at_call 53; refine (oneNo _ (by omega) HQ.out).mono ?_; rintro e w1 ⟨rfl, h1⟩; have HX := Lib.hid (boxed (C := Z) h1); clear h1)
          | ((with_reducible refine wpList_store_row rfl 91 (.tmp 5) (.tmp 12) rfl wr.heap.size Z ?hx ?hy 91 _ HX.out.1 ?hi ?hold ?h1 ?_); (case hx => rfl); (case hy => rfl); (case hi => exact i91s); (case hold => rfl); (case h1 => exact Zl_one)))
        go_ret2
        exact ⟨[], none, 0, false, rfl, HP.out.below.trans (HX.out.2.2.mono HP.out.below.size), Nat.le_refl _, Or.inr ⟨rfl, HBAD.out⟩⟩
      | false =>
        have HQ := Lib.hid hq
        have hless := qE_less hq
        have hsz2 := str_size (qE l').1
        have h27 := opCells_len (opR l') (opR_wf l' (by omega)).r
        have HR27 := Lib.hid h27
        clear hq h27
        obtain ⟨lq, hlq⟩ : ∃ x, x = (qE l').1 := ⟨_, rfl⟩
        rw [← hlq] at hless hsz2
        have HLQ := Lib.hid hlq
        clear hlq
        go_wp2_with (first
          | (go_at_call 53; refine (oneOk _ (by omega) HQ.out).mono ?_; rw [← HLQ.out]; rintro e w1 ⟨rfl, h1⟩; have HX := Lib.hid (boxed (C := (opCells (opR l')).toArray) h1); clear h1)
          | ((with_reducible refine wpList_store_row rfl 91 (.tmp 5) (.tmp 12) rfl wr.heap.size (opCells (opR l')).toArray ?hx ?hy 91 _ HX.out.1 ?hi ?hold ?h1 ?_); (case hx => rfl); (case hy => rfl); (case hi => rw [List.size_toArray, HR27.out]; exact i91s); (case hold => exact HR27.out.symm); (case h1 => exact all_oneCell_toArray (opCells_one _)); obtain ⟨nb, hnb⟩ : ∃ n, n = wr.heap.size := ⟨_, rfl⟩; have HP3 := Lib.hid (HP.out.on HX.out.2.2); have HBX := Lib.hid HX.out.2.1; obtain ⟨w3, hw3⟩ : ∃ y, y = w1.setRow wr.heap.size (opCells (opR l')).toArray := ⟨_, rfl⟩; rw [← hw3] at HP3 HBX ⊢; rw [← hnb] at HBX; (try rw [← hnb]); clear hw3 HX hnb)
          | ((with_reducible refine wpList_load_mid rfl 91 (.tmp 5) rfl nb 0 ?hx (opCells (opR l')) _ ?hc Try.underlying91 rfl ?hi ?_); (case hx => rfl); (case hc => exact orange2 HBX.out); (case hi => rw [HR27.out]; exact i91s))
          | ((with_reducible refine wpList_slice_one rfl 82 (.tmp 18) rfl 91 Try.underlying82 hi0 hz0 hz1 (by decide) (by decide) (opCells (opR l')).toArray ?hx ?hs ?_); (case hx => rfl); (case hs => rw [List.size_toArray]; exact HR27.out))
          | (at_builtin; refine wpList_append_own _ rfl (.tmp 17) (.tmp 19) 82 rfl w.heap.size 91 i0 _ 27 128 Try.underlying82 hi0 hz0 hz1 hz2 rfl (by decide) _ out.length (out.flatMap opCells) rfl (own_alloc HP3.out.row _) ⟨w3.heap.size, 0, none⟩ 1 1 (opCells (opR l')) rfl (by rw [HR27.out]) (cells_new w3 (opCells (opR l')) 91) (opCells_one _) (by unfold maxLen; omega) (by omega) (Nat.le_trans HP3.out.below.size (by simp)) ?_; intro v5 w5 hown hgrow _; have HP5 := Lib.hid (HP3.out.put h0 HQ.out hown hgrow); clear hown hgrow HP3))
        refine ⟨⟨out ++ [opR l'], lq, rfl, by rw [HLQ.out]; exact HP5⟩, ?_⟩
        show (str lq).size < (str l').size
        omega
    · have h00 : l'.length = 0 := by omega
      have hem : (str l').toList.isEmpty = true := by
        rw [str_toList]; cases l' with
        | nil => rfl
        | cons x y => simp at h00
      have HI : Hid (Is out l) := HP.out.far.end_is (by omega) rfl h00
      clear h00
      go_wp2_with fail
      go_ret2
      exact ⟨out, A', c', true, rfl, HP.out.below, hnc, Or.inl ⟨rfl, HI.out, rdO_own HP.out.row HI.out.wf (by omega)⟩⟩
end Go.Proofs.Ytdojhdglbajinaa.ScrRefParse
