/- DERIVED. Bytes in memory, of no program: what reads as a list of bytes; a cut of it; its text; a text's bytes; a copy of it. -/
import Derived.WalkKit
import Derived.Below
import Derived.Lib.ConvBytes
import Derived.Lib.AppendStr
import Derived.Lib.Strings
import Derived.Laws.BytesArg
import Derived.Laws.AppendOwnNone
import Derived.Laws.BytesString
import Derived.Laws.Slices
import Derived.Deep.Slices
import Derived.Lib.Hide
import Derived.Lib.SmallJoins
namespace Go.Proofs.Ytdojhdglbajinaa.Mem
open Go.RowKit
set_option linter.unusedVariables false

/-- A byte's cell. -/
def cellB (u : UInt8) : Value := .int .u8 (u.toNat : Int)
theorem cellB_one (u : UInt8) : (cellB u).oneCell' = true := rfl

/-- What a slice at A holds: these bytes (its length is theirs). -/
def Rd (w : World) (A : Option Addr) (xs : List UInt8) : Prop :=
  xs.length ≤ 9223372036854775807 ∧ (0 < xs.length → ∃ ad, A = some ad ∧ ∀ j u, xs[j]? = some u → w.cell? (ad.add j) = some (cellB u))

theorem Rd.nil (w : World) (A : Option Addr) : Rd w A [] := ⟨by simp, fun h => absurd h (by simp)⟩
theorem Rd.below {w w' : World} {A : Option Addr} {xs : List UInt8} (h : Rd w A xs) (hb : Below w.heap.size w w') : Rd w' A xs :=
  ⟨h.1, fun hn => by
    obtain ⟨ad, e, hc⟩ := h.2 hn
    refine ⟨ad, e, fun j u hj => ?_⟩
    have := hc j u hj
    rw [hb.cell (World.block_lt_of_cell? w _ this)]
    exact this⟩
/-- Where its cells stay. -/
theorem Rd.keep {w w' : World} {A : Option Addr} {xs : List UInt8} (h : Rd w A xs) (hk : ∀ ad, A = some ad → ∀ j, (w.cell? (ad.add j)).isSome → w'.cell? (ad.add j) = w.cell? (ad.add j)) : Rd w' A xs :=
  ⟨h.1, fun hn => by
    obtain ⟨ad, e, hc⟩ := h.2 hn
    refine ⟨ad, e, fun j u hj => ?_⟩
    have := hc j u hj
    rw [hk ad e j (by rw [this]; rfl)]
    exact this⟩
theorem add_add (a : Addr) (i j : Nat) : (a.add i).add j = a.add (i + j) := Deep.add_add a i j
theorem Rd.take {w : World} {A : Option Addr} {xs : List UInt8} (h : Rd w A xs) (m : Nat) : Rd w A (xs.take m) := by
  have hl : (xs.take m).length ≤ xs.length := by rw [List.length_take]; omega
  refine ⟨by have := h.1; omega, fun hp => ?_⟩
  obtain ⟨ad, e, hc⟩ := h.2 (by omega)
  refine ⟨ad, e, fun j p hj => hc j p ?_⟩
  rw [List.getElem?_take] at hj
  split at hj
  · exact hj
  · cases hj
theorem Rd.drop {w : World} {A : Option Addr} {xs : List UInt8} (h : Rd w A xs) (m c : Nat) (hc : xs.length ≤ c) : Rd w (if c = m then A else A.map (·.add m)) (xs.drop m) := by
  have hl : (xs.drop m).length = xs.length - m := List.length_drop
  refine ⟨by have := h.1; omega, fun hp => ?_⟩
  rw [hl] at hp
  obtain ⟨ad, rfl, hcell⟩ := h.2 (by omega)
  rw [if_neg (by omega)]
  refine ⟨ad.add m, rfl, fun j p hj => ?_⟩
  rw [List.getElem?_drop] at hj
  rw [add_add]
  exact hcell (m + j) p hj

section
variable {P : Program}
theorem mid (t e : TypeId) (kl kh : IntKind) {i : TypeInfo} (ht : P.underlying t = some (.slice e)) (hi : P.info? e = some i) (hsz : i.size = 1) (A : Option Addr) (c : Nat) (xs : List UInt8) (a b : Int) (h0 : 0 ≤ a) (h1 : a ≤ b) (hm : b ≤ xs.length) (hc : xs.length ≤ c) :
    ∃ A' : Option Addr, (∀ W : World, (Instr.slice t (.slice A xs.length c) (some (.int kl a)) (some (.int kh b)) none).run P W = .ok (.slice A' ((xs.take b.toNat).drop a.toNat).length (c - a.toNat)) W) ∧
      (∀ w : World, Rd w A xs → Rd w A' ((xs.take b.toNat).drop a.toNat)) ∧ ((xs.take b.toNat).drop a.toNat).length ≤ c - a.toNat := by
  have hlt : (xs.take b.toNat).length = b.toNat := by rw [List.length_take]; omega
  have hl : ((xs.take b.toNat).drop a.toNat).length = b.toNat - a.toNat := by rw [List.length_drop, hlt]
  refine ⟨if c = a.toNat then A else A.map (·.add a.toNat), fun W => ?_, fun w h => (h.take b.toNat).drop a.toNat c (by omega), by rw [hl]; omega⟩
  have hel : P.elem t = e := by simp [Program.elem, ht]
  have hu : P.underlying t = some (.slice (P.elem t)) := by rw [hel]; exact ht
  rw [run_slice_lh W t A xs.length c hu kl kh a b h0 h1 (by omega), hel, hl]
  simp [sizeOf, typeInfo, hi, hsz, sliced, Result.andThen]
theorem taken (t e : TypeId) (kh : IntKind) {i : TypeInfo} (ht : P.underlying t = some (.slice e)) (hi : P.info? e = some i) (A : Option Addr) (c : Nat) (xs : List UInt8) (j : Int) (h0 : 0 ≤ j) (hm : j ≤ xs.length) (hc : xs.length ≤ c) :
    (∀ W : World, (Instr.slice t (.slice A xs.length c) none (some (.int kh j)) none).run P W = .ok (.slice A (xs.take j.toNat).length c) W) ∧ (xs.take j.toNat).length ≤ c := by
  have hl : (xs.take j.toNat).length = j.toNat := by rw [List.length_take]; omega
  refine ⟨fun W => ?_, by rw [hl]; omega⟩
  have hel : P.elem t = e := by simp [Program.elem, ht]
  have hu : P.underlying t = some (.slice (P.elem t)) := by rw [hel]; exact ht
  have ha : (A.map fun x => x.add 0) = A := by cases A <;> simp [Addr.add]
  rw [run_slice_h W t A xs.length c hu kh j h0 (by omega), hel, hl]
  simp [sizeOf, typeInfo, hi, sliced, Result.andThen, ha]
theorem dropped (t e : TypeId) (kl : IntKind) {i : TypeInfo} (ht : P.underlying t = some (.slice e)) (hi : P.info? e = some i) (hsz : i.size = 1) (A : Option Addr) (c : Nat) (xs : List UInt8) (j : Int) (h0 : 0 ≤ j) (hm : j ≤ xs.length) (hc : xs.length ≤ c) :
    ∃ A' : Option Addr, (∀ W : World, (Instr.slice t (.slice A xs.length c) (some (.int kl j)) none none).run P W = .ok (.slice A' (xs.drop j.toNat).length (c - j.toNat)) W) ∧
      (∀ w : World, Rd w A xs → Rd w A' (xs.drop j.toNat)) ∧ (xs.drop j.toNat).length ≤ c - j.toNat := by
  have hl : (xs.drop j.toNat).length = xs.length - j.toNat := List.length_drop
  refine ⟨if c = j.toNat then A else A.map (·.add j.toNat), fun W => ?_, fun w h => h.drop j.toNat c hc, by rw [hl]; omega⟩
  have hel : P.elem t = e := by simp [Program.elem, ht]
  have hu : P.underlying t = some (.slice (P.elem t)) := by rw [hel]; exact ht
  rw [run_slice_l W t A xs.length c hu kl j h0 hm, hel, hl]
  simp [sizeOf, typeInfo, hi, hsz, sliced, Result.andThen]

/-- A text out of a list of bytes. -/
def str (xs : List UInt8) : ByteArray := ⟨xs.toArray⟩
theorem str_toList (xs : List UInt8) : (str xs).toList = xs := by rw [ByteArray.toList_eq]; rfl
theorem str_size (xs : List UInt8) : (str xs).size = xs.length := by simp [str, ByteArray.size]
theorem str_data (s : ByteArray) : str s.data.toList = s := by cases s; simp [str]
theorem str_inj {xs ys : List UInt8} : str xs = str ys ↔ xs = ys := ⟨fun h => by have := congrArg ByteArray.toList h; rwa [str_toList, str_toList] at this, fun h => by rw [h]⟩
theorem str_append (xs ys : List UInt8) : str xs ++ str ys = str (xs ++ ys) := ByteArray.mk_append_mk xs ys

/-- string(b). -/
theorem run_string {w : World} {src dst e : TypeId} {A : Option Addr} {c : Nat} {xs : List UInt8} (hs : P.underlying src = some (.slice e)) (he : P.underlying e = some (.int .u8)) (hd : P.underlying dst = some .string)
    (h : Rd w A xs) : (convert src dst (.slice A xs.length c)).run P w = .ok (.string (str xs)) w := by
  rcases A with _ | ad
  · have h0 : xs = [] := by
      rcases Nat.eq_zero_or_pos xs.length with h0 | h0
      · exact List.eq_nil_of_length_eq_zero h0
      · obtain ⟨ad, h', _⟩ := h.2 h0
        cases h'
    subst h0
    exact run_convert_bytes_nil w src e hs he 0 c dst hd
  · have hl : (loadCells ad xs.length).run P w = .ok ((xs.map fun u => (u.toNat : Int)).map (Value.int .u8)).toArray w := by
      have := run_loadCells_list (P := P) w ad (xs.map cellB) (fun j v hj => by
        have hjl : j < xs.length := by
          rcases Nat.lt_or_ge j xs.length with h' | h'
          · exact h'
          · rw [List.getElem?_eq_none (by rw [List.length_map]; exact h')] at hj
            cases hj
        obtain ⟨ad', he', hc⟩ := h.2 (by omega)
        injection he' with he'
        subst he'
        rw [List.getElem?_map, List.getElem?_eq_getElem hjl] at hj
        simp at hj
        subst hj
        exact hc j _ (List.getElem?_eq_getElem hjl))
      rw [List.length_map] at this
      rw [this]
      simp [cellB, Function.comp_def]
    rw [run_convert_bytes_string w src dst e _ xs.length c hs he hd, run_bytesToString w ad xs.length c _ hl, foldl_push_bytes]
    simp [str, ByteArray.empty, ByteArray.emptyWithCapacity, Function.comp_def]
    rfl
end

/-- []byte(s). -/
theorem rd_bytes (W : World) (e : TypeId) (s : ByteArray) (hs : s.size ≤ 9223372036854775807) : Rd (Lib.bytesWorld W e s) (some ⟨W.heap.size, 0, none⟩) s.data.toList := by
  have hl : s.data.toList.length = s.size := by rw [Array.length_toList]; rfl
  refine ⟨by omega, fun _ => ⟨_, rfl, fun j u hj => ?_⟩⟩
  have hj' : j < s.data.toList.length := (List.getElem?_eq_some_iff.1 hj).1
  rw [Addr.add_lit, Nat.zero_add, Lib.bytesWorld_cell W e s j (by omega), List.getD_eq_getElem?_getD, hj]
  rfl
theorem below_bytes {B : Nat} {w W : World} (h : Below B w W) (hB : B ≤ W.heap.size) (e : TypeId) (s : ByteArray) : Below B w (Lib.bytesWorld W e s) :=
  h.trans ⟨rfl, rfl, rfl, by rw [Lib.bytesWorld_size]; omega, fun i hi => Lib.bytesWorld_at_old W e s i (by omega)⟩

/-- A row of the call's own, of bytes: it reads as they are. -/
theorem rd_own {w : World} {base : Nat} {e : TypeId} {A : Option Addr} {n c : Nat} {xs : List UInt8} (h : w.ownsRow base e 1 (.slice A n c) n (xs.map cellB)) : n = xs.length ∧ xs.length ≤ c ∧ c ≤ maxLen ∧ Rd w A xs := by
  have hl := h.1
  rw [List.length_map, Nat.mul_one] at hl
  subst hl
  rcases h.2 with ⟨hv, h0⟩ | ⟨g, cap, cur, hv, hb, hg, hn, hm, _, _⟩
  · injection hv with h1 h2 h3
    subst h1 h3
    obtain rfl := List.eq_nil_of_length_eq_zero h0
    exact ⟨rfl, by simp, by simp [maxLen], Rd.nil _ _⟩
  · injection hv with h1 h2 h3
    subst h1 h3
    refine ⟨rfl, hn, hm, ⟨by unfold maxLen at hm; omega, fun _ => ⟨_, rfl, fun j u hj => ?_⟩⟩⟩
    exact h.cells (g := g) rfl j (cellB u) (by rw [List.getElem?_map, hj]; rfl)
theorem own_form {w : World} {base : Nat} {e : TypeId} {v : Value} {n : Nat} {ys : List Value} (h : w.ownsRow base e 1 v n ys) : ∃ A c, v = .slice A n c := by
  rcases h.2 with ⟨hv, h0⟩ | ⟨g, cap, cur, hv, _⟩
  · exact ⟨none, 0, by rw [hv, h0]⟩
  · exact ⟨_, _, hv⟩
theorem map_cellB_one (xs : List UInt8) : ∀ u ∈ xs.map cellB, u.oneCell' = true := by
  intro u hu
  obtain ⟨_, _, rfl⟩ := List.mem_map.1 hu
  rfl

/-! ### append(out, b...), b what reads as bytes -/
section
variable {P : Program} {ops : Array Oper} {rest : List Oper} {o : Oper} {a : Act} {w : World} {Q : Exit → Act → World → Prop}
theorem wpList_append_rd (hgd : o.guard = none) (s x : Operand) (t e : TypeId) (ho : o.op = .call { callee := .builtin .append, args := #[s, x], argTypes := #[t, t] }) (base : Nat) (ht : P.underlying t = some (.slice e)) (i : TypeInfo)
    (hi : P.info? e = some i) (hz0 : i.zero = some (.int .u8 0)) (hz1 : i.size = 1) (hz2 : i.bytes = 1) (v : Value) (n : Nat) (ys : List UInt8) (hs : a.eval s = v) (hown : w.ownsRow base e 1 v n (ys.map cellB))
    (A : Option Addr) (c : Nat) (xs : List UInt8) (hx : a.eval x = .slice A xs.length c) (hn : A = none → c = 0) (rd : Rd w A xs) (hlen : n + xs.length ≤ 140737488355328) (hbase : base ≤ w.heap.size)
    (hK : ∀ B c' w', w'.ownsRow base e 1 (.slice B (n + xs.length) c') (n + xs.length) ((ys ++ xs).map cellB) → w.grownBy w' v.ownBlock → wpList P ops Q rest (a.put o.dst (.slice B (n + xs.length) c')) w') : wpList P ops Q (o :: rest) a w := by
  rcases A with _ | ad
  · obtain rfl := hn rfl
    have h0 : xs = [] := by
      rcases Nat.eq_zero_or_pos xs.length with h0 | h0
      · exact List.eq_nil_of_length_eq_zero h0
      · obtain ⟨ad, h', _⟩ := rd.2 h0
        cases h'
    subst h0
    obtain ⟨B, c', hv⟩ := own_form hown
    refine wpList_append_own_none hgd s x t ho base e i 1 ht hi v n (ys.map cellB) hs hown hx ?_
    have := hK B c' w (by rw [List.append_nil]; simpa [← hv] using hown) (World.grownBy.refl _ _)
    simpa [← hv] using this
  · refine wpList_append_own (P := P) w hgd s x t ho base e i (.int .u8 0) 1 1 ht hi hz0 hz1 hz2 rfl (by decide) v n (ys.map cellB) hs hown ad xs.length c (xs.map cellB) hx (by simp) ?_ (map_cellB_one xs) (by unfold maxLen; omega) (by omega) hbase ?_
    · intro j u hj
      have hj0 : 0 < xs.length := by
        rcases Nat.eq_zero_or_pos xs.length with h0 | h0
        · rw [List.eq_nil_of_length_eq_zero h0] at hj; simp at hj
        · exact h0
      obtain ⟨ad', e, hc⟩ := rd.2 hj0
      injection e with e
      subst e
      rw [List.getElem?_map] at hj
      obtain ⟨x, hx, rfl⟩ := Option.map_eq_some_iff.1 hj
      exact hc j x hx
    · intro v' w' h1 h2 _
      obtain ⟨B, c', rfl⟩ := own_form h1
      exact hK B c' w' (by rw [List.map_append]; exact h1) h2
end

/-! ### One operation, by what its run is known to be -/
section
variable {P : Program} {ops : Array Oper} {rest : List Oper} {o : Oper} {a : Act} {w : World} {Q : Exit → Act → World → Prop}
theorem wpList_value (hg : o.guard = none) {v : Value} {w1 : World} (hrun : (execOp a.eval o).run P w = .ok (.value v) w1) (h : wpList P ops Q rest (a.put o.dst v) w1) : wpList P ops Q (o :: rest) a w := by
  refine wpList_plain hg fun K hK => ?_
  unfold Oper.wp
  rw [hrun]
  exact hK _ _ h
theorem run_mid (t : TypeId) (x lo hi : Operand) (ho : o.op = .slice t x (some lo) (some hi) none) {e : TypeId} (ht : P.underlying t = some (.slice e)) {X L H v : Value} (hx : a.eval x = X) (hl : a.eval lo = L) (hh : a.eval hi = H)
    (hrun : (Instr.slice t X (some L) (some H) none).run P w = .ok v w) : (execOp a.eval o).run P w = .ok (.value v) w := by
  have hel : P.elem t = e := by simp [Program.elem, ht]
  have hu : P.underlying t = some (.slice (P.elem t)) := by rw [hel]; exact ht
  unfold execOp
  simp only [ho, Option.map_some, Option.map_none, hx, hl, hh, run_sliceAt_slice _ _ _ _ _ _ hu, Sem.run_bind, hrun, Result.andThen_ok, Sem.run_pure]
theorem wpList_mid (hg : o.guard = none) (t : TypeId) (x lo hi : Operand) (ho : o.op = .slice t x (some lo) (some hi) none) {e : TypeId} (ht : P.underlying t = some (.slice e)) {X L H v : Value} (hx : a.eval x = X) (hl : a.eval lo = L) (hh : a.eval hi = H)
    (hrun : (Instr.slice t X (some L) (some H) none).run P w = .ok v w) (h : wpList P ops Q rest (a.put o.dst v) w) : wpList P ops Q (o :: rest) a w := by
  refine wpList_value hg ?_ h
  have hel : P.elem t = e := by simp [Program.elem, ht]
  have hu : P.underlying t = some (.slice (P.elem t)) := by rw [hel]; exact ht
  unfold execOp
  simp only [ho, Option.map_some, Option.map_none, hx, hl, hh, run_sliceAt_slice _ _ _ _ _ _ hu, Sem.run_bind, hrun, Result.andThen_ok, Sem.run_pure]
theorem wpList_from (hg : o.guard = none) (t : TypeId) (x lo : Operand) (ho : o.op = .slice t x (some lo) none none) {e : TypeId} (ht : P.underlying t = some (.slice e)) {X L v : Value} (hx : a.eval x = X) (hl : a.eval lo = L)
    (hrun : (Instr.slice t X (some L) none none).run P w = .ok v w) (h : wpList P ops Q rest (a.put o.dst v) w) : wpList P ops Q (o :: rest) a w := by
  refine wpList_value hg ?_ h
  have hel : P.elem t = e := by simp [Program.elem, ht]
  have hu : P.underlying t = some (.slice (P.elem t)) := by rw [hel]; exact ht
  unfold execOp
  simp only [ho, Option.map_some, Option.map_none, hx, hl, run_sliceAt_slice _ _ _ _ _ _ hu, Sem.run_bind, hrun, Result.andThen_ok, Sem.run_pure]
theorem wpList_upto (hg : o.guard = none) (t : TypeId) (x hi : Operand) (ho : o.op = .slice t x none (some hi) none) {e : TypeId} (ht : P.underlying t = some (.slice e)) {X H v : Value} (hx : a.eval x = X) (hh : a.eval hi = H)
    (hrun : (Instr.slice t X none (some H) none).run P w = .ok v w) (h : wpList P ops Q rest (a.put o.dst v) w) : wpList P ops Q (o :: rest) a w := by
  refine wpList_value hg ?_ h
  have hel : P.elem t = e := by simp [Program.elem, ht]
  have hu : P.underlying t = some (.slice (P.elem t)) := by rw [hel]; exact ht
  unfold execOp
  simp only [ho, Option.map_some, Option.map_none, hx, hh, run_sliceAt_slice _ _ _ _ _ _ hu, Sem.run_bind, hrun, Result.andThen_ok, Sem.run_pure]
end

theorem own_below {w w' : World} {base : Nat} {e : TypeId} {size n : Nat} {v : Value} {ys : List Value} (h : w.ownsRow base e size v n ys) (hb : Below w.heap.size w w') : w'.ownsRow base e size v n ys := by
  refine ⟨h.1, ?_⟩
  rcases h.2 with h0 | ⟨g, cap, cur, hv, hbr, hg, rest⟩
  · exact Or.inl h0
  · exact Or.inr ⟨g, cap, cur, hv, hbr, (hb.block g (Array.getElem?_eq_some_iff.1 hg).1).trans hg, rest⟩
theorem step2 {B : Nat} {w w1 w2 : World} (h : Below B w w1) (hB : B ≤ w1.heap.size) (k : Below w1.heap.size w1 w2) : Below B w w2 := h.trans (k.mono hB)
theorem below1 (w : World) (o : Obj) : Below w.heap.size w (w.alloc o) := (Below.refl _ _).alloc (Nat.le_refl _) o
end Go.Proofs.Ytdojhdglbajinaa.Mem
