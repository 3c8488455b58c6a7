/- Walks of Named on both sides. No condition. -/
import Derived.Test.YthdckndjggljpaaKA
import Derived.Test.YthdckndjggljpaaTA
import Derived.LoopTactic
import Derived.Deep.Cut
import Derived.Lib.ConvBytes
namespace Go.Proofs.Ythdckndjggljpaa
open Go.RowKit
set_option linter.unusedVariables false
set_option linter.unusedSimpArgs false
set_option maxRecDepth 100000
/-- Is it a word of the language? -/
def Tk.rsv (l : List UInt8) : Bool := Tk.isWord l || (W.nt l).2.2
def Tk.allW (l : List UInt8) : Bool := l.all (fun c => Tk.isW c.toNat)
/-- Is it a name? -/
def Tk.nmd (l : List UInt8) : Bool := decide (1 ≤ l.length ∧ l.length ≤ 32) && Tk.isL (l.headD 0).toNat && !Tk.rsv l && Tk.allW l
theorem reserved_ok (s : ByteArray) (hs : s.size ≤ maxLen) (w : World) : Calls Try.prog 16 #[.string s] w fun e w' => e = .returned (.bool (Tk.rsv s.data.toList)) ∧ Below w.heap.size w w' :=
  reserved_at s _ _ _ w (fun w1 => named_ok s hs w1)
theorem Tk.byte_at (s : ByteArray) (k : Nat) (h : k < s.size) : s[k] = s.data.toList[k]'(by rw [← Tk.size_is]; exact h) := rfl
theorem Tk.allW_of (l : List UInt8) (h : ∀ j, (hj : j < l.length) → Tk.isW (l[j]).toNat = true) : Tk.allW l = true := by
  unfold Tk.allW
  rw [List.all_eq_true]
  intro x hx
  obtain ⟨j, hj, rfl⟩ := List.mem_iff_getElem.1 hx
  exact h j hj
theorem Tk.allW_no (l : List UInt8) (j : Nat) (hj : j < l.length) (h : Tk.isW (l[j]).toNat = false) : Tk.allW l = false := by
  unfold Tk.allW
  rw [Bool.eq_false_iff, Ne, List.all_eq_true]
  intro h2
  rw [h2 _ (List.getElem_mem hj)] at h; cases h
set_option maxHeartbeats 4000000 in
theorem sNamed_ok (s : ByteArray) (hs : s.size ≤ maxLen) (w : World) : Calls Try.prog 7 #[.string s] w fun e w' => e = .returned (.bool (Tk.nmd s.data.toList)) ∧ Below w.heap.size w w' := by
  obtain ⟨V, hV⟩ : ∃ V, V = Tk.nmd s.data.toList := ⟨_, rfl⟩
  rw [← hV]
  have HV := Lib.hid hV
  clear hV
  have HS := Lib.hid hs
  have hsz := Tk.size_is s
  have HZ := Lib.hid hsz
  clear hsz
  by_cases h1 : s.size < 1
  · have d1 : decide ((s.size : Int) < 1) = true := by simp; omega
    have HF : Hid (V = false) := by show V = false; rw [HV.out]; unfold Tk.nmd; rw [decide_eq_false (by have := HZ.out; omega)]; rfl
    clear hs
    go_enter Try.func7, Try.ntmps7
    go_wp2
    go_ret
    exact ⟨by rw [HF.out]; rfl, Below.refl _ _⟩
  by_cases h2 : 32 < s.size
  · have d1 : decide ((s.size : Int) < 1) = false := by simp; omega
    have d2 : decide ((s.size : Int) > 32) = true := by simp; omega
    have HF : Hid (V = false) := by show V = false; rw [HV.out]; unfold Tk.nmd; rw [decide_eq_false (by have := HZ.out; omega)]; rfl
    clear hs
    go_enter Try.func7, Try.ntmps7
    go_wp2
    go_ret
    exact ⟨by rw [HF.out]; rfl, Below.refl _ _⟩
  have d1 : decide ((s.size : Int) < 1) = false := by simp; omega
  have d2 : decide ((s.size : Int) > 32) = false := by simp; omega
  have h0 : 0 < s.size := by omega
  have HN1 := Lib.hid h1
  have HN2 := Lib.hid h2
  clear h1 h2 hs
  obtain ⟨b0, hb0⟩ : ∃ b, b = Tk.isL (s[0]).toNat := ⟨_, rfl⟩
  have HB0 := Lib.hid hb0
  have HL0 : Hid (∀ w1 : World, Calls Try.prog 15 #[.int .u8 (s[0].toNat : Int)] w1 fun e w' => e = .returned (.bool b0) ∧ w1 = w') := by rw [hb0]; exact fun w1 => letter_ok _ w1
  clear hb0
  have HHD : Hid ((s.data.toList.headD 0) = s[0]) := by
    have : 0 < s.data.toList.length := by rw [← HZ.out]; exact h0
    obtain ⟨⟨l⟩⟩ := s
    cases l with
    | nil => exact absurd this (Nat.lt_irrefl _)
    | cons a l => rfl
  obtain ⟨r, hr⟩ : ∃ b, b = Tk.rsv s.data.toList := ⟨_, rfl⟩
  have HR : Hid (∀ w1 : World, Calls Try.prog 16 #[.string s] w1 fun e w' => e = .returned (.bool r) ∧ Below w1.heap.size w1 w') := by rw [hr]; exact fun w1 => reserved_ok s HS.out w1
  have HRr := Lib.hid hr
  clear hr
  rcases b0 with _ | _
  · have HF : Hid (V = false) := by show V = false; rw [HV.out]; unfold Tk.nmd; rw [HHD.out, ← HB0.out]; simp
    go_enter Try.func7, Try.ntmps7
    go_wp2_with (first | (go_at_call 15; refine (HL0.out _).mono ?_; rintro e w' ⟨rfl, rfl⟩))
    go_ret
    exact ⟨by rw [HF.out]; rfl, Below.refl _ _⟩
  rcases r with _ | _
  rotate_left
  · have HF : Hid (V = false) := by show V = false; rw [HV.out]; unfold Tk.nmd; rw [← HRr.out]; simp
    go_enter Try.func7, Try.ntmps7
    go_wp2_with (first | (go_at_call 15; refine (HL0.out _).mono ?_; rintro e w' ⟨rfl, rfl⟩) | (go_at_call 16; refine (HR.out _).mono ?_; rintro e w1 ⟨rfl, hb1⟩; have HB1 := Lib.hid hb1; clear hb1))
    go_ret
    exact ⟨by rw [HF.out]; rfl, HB1.out⟩
  have HT : Hid (V = Tk.allW s.data.toList) := by
    show V = _; rw [HV.out]; unfold Tk.nmd; rw [HHD.out, ← HB0.out, ← HRr.out]
    rw [decide_eq_true (by have := HZ.out; have := HN1.out; have := HN2.out; omega)]; rfl
  have HLW : Hid (∀ (j : Nat) (h : j < s.size), s[j] = s.data.toList[j]'(by rw [← Tk.size_is]; exact h)) := fun j h => Tk.byte_at s j h
  go_enter Try.func7, Try.ntmps7
  go_upto_region 4 with (first | (go_at_call 15; refine (HL0.out _).mono ?_; rintro e w' ⟨rfl, rfl⟩) | (go_at_call 16; refine (HR.out _).mono ?_; rintro e w1 ⟨rfl, hb1⟩; have HB1 := Lib.hid hb1; clear hb1))
  have h32 : s.size ≤ 32 := (by have := HN2.out; omega)
  go_loopw [24] (fun i wr => Below w.heap.size w wr ∧ ∃ k : Nat, k ≤ s.size ∧ i = .int .i64 (k : Int) ∧ Hid (∀ j, (h : j < s.size) → j < k → Tk.isW (s[j]).toNat = true)) (fun i wr => s.size - (intOf i).toNat)
  case atStart => exact ⟨HB1.out, 0, Nat.zero_le _, rfl, fun j h hj => absurd hj (Nat.not_lt_zero _)⟩
  case round =>
    obtain ⟨hbel, k, hk, rfl, hall⟩ := hrel
    have HBEL := Lib.hid hbel
    clear hbel
    by_cases hlt : k < s.size
    · obtain ⟨u, hu⟩ : ∃ u, u = Tk.isL (s[k]).toNat := ⟨_, rfl⟩
      obtain ⟨v, hv⟩ : ∃ v, v = Tk.isD (s[k]).toNat := ⟨_, rfl⟩
      have HLK : Hid (∀ w1 : World, Calls Try.prog 15 #[.int .u8 ((s[k]).toNat : Int)] w1 fun e w' => e = .returned (.bool u) ∧ w1 = w') := by rw [hu]; exact fun w1 => letter_ok _ w1
      have HDK : Hid (∀ w1 : World, Calls Try.prog 17 #[.int .u8 ((s[k]).toNat : Int)] w1 fun e w' => e = .returned (.bool v) ∧ w1 = w') := by rw [hv]; exact fun w1 => digit_ok _ w1
      have HUV : Hid (Tk.isW (s[k]).toNat = (u || v)) := by show _ = _; rw [hu, hv]; rfl
      have HLT := Lib.hid hlt
      clear hu hv
      have go_on : (u || v) = true → Hid (∀ j, (h : j < s.size) → j < k + 1 → Tk.isW (s[j]).toNat = true) := fun huv j h hj => by
        rcases Nat.lt_or_ge j k with h5 | h5
        · exact hall.out j h h5
        · obtain rfl : j = k := by omega
          rw [HUV.out]; exact huv
      rcases u with _ | _
      · rcases v with _ | _
        · have HF : Hid (V = false) := by
            show V = false
            rw [HT.out]
            have hkl : k < s.data.toList.length := by rw [← HZ.out]; exact HLT.out
            refine Tk.allW_no _ k hkl ?_
            have := HUV.out
            rw [HLW.out k HLT.out] at this
            exact this
          clear go_on
          go_wp2_with (first | (go_at_call 15; refine (HLK.out _).mono ?_; rintro e w' ⟨rfl, rfl⟩) | (go_at_call 17; refine (HDK.out _).mono ?_; rintro e w' ⟨rfl, rfl⟩))
          go_ret
          exact ⟨by rw [HF.out]; rfl, HBEL.out⟩
        · have HG := go_on rfl
          clear go_on
          go_wp2_with (first | (go_at_call 15; refine (HLK.out _).mono ?_; rintro e w' ⟨rfl, rfl⟩) | (go_at_call 17; refine (HDK.out _).mono ?_; rintro e w' ⟨rfl, rfl⟩))
          go_round
          case rel => exact ⟨HBEL.out, k + 1, HLT.out, by go_num, HG⟩
          case measure => have := HLT.out; simp [intOf]; omega
      · have HG := go_on rfl
        clear go_on
        go_wp2_with (first | (go_at_call 15; refine (HLK.out _).mono ?_; rintro e w' ⟨rfl, rfl⟩) | (go_at_call 17; refine (HDK.out _).mono ?_; rintro e w' ⟨rfl, rfl⟩))
        go_round
        case rel => exact ⟨HBEL.out, k + 1, HLT.out, by go_num, HG⟩
        case measure => have := HLT.out; simp [intOf]; omega
    · obtain rfl : k = s.size := by omega
      have HF : Hid (V = true) := by
        show V = true
        rw [HT.out]
        refine Tk.allW_of _ (fun j hj => ?_)
        have h2 : j < s.size := by rw [HZ.out]; exact hj
        have := hall.out j h2 h2
        rw [HLW.out j h2] at this
        exact this
      go_wp2
      go_ret
      exact ⟨by rw [HF.out]; rfl, HBEL.out⟩
theorem bytesWorld_below8 (w : World) (e : TypeId) (s : ByteArray) : Below w.heap.size w (Lib.bytesWorld w e s) :=
  ⟨rfl, rfl, rfl, by rw [Lib.bytesWorld_size]; omega, fun b hb => Lib.bytesWorld_at_old w e s b hb⟩
/-- '[]byte(s)': a new row, its bytes. -/
theorem wpList_bytes8 {P : Program} {ops : Array Oper} {rest : List Oper} {o : Oper} {a : Act} {w : World} {Q : Exit → Act → World → Prop} (hgd : o.guard = none) (src dst e : TypeId) (x : Operand) (ho : o.op = .convert src dst x) (s : ByteArray) (hx : a.eval x = .string s) (u : TypeDesc)
    (hs : P.underlying src = some u) (hd : P.underlying dst = some (.slice e)) (he : P.underlying e = some (.int .u8))
    (h : ∀ (w1 : World) (cap : Nat), Below w.heap.size w w1 → (∀ j, j < s.size → w1.cell? ⟨w.heap.size, j, none⟩ = some (.int .u8 (s.data.toList.getD j 0).toNat)) → wpList P ops Q rest (a.put o.dst (.slice (some ⟨w.heap.size, 0, none⟩) s.size cap)) w1) : wpList P ops Q (o :: rest) a w :=
  wpList_plain hgd fun _ hK => by
    unfold Oper.wp execOp
    simp only [ho, hx, Sem.run_bind, Sem.run_pure, Result.andThen_ok, Lib.run_convert_string_bytes w src dst e s hs hd he]
    exact hK _ _ (h _ _ (bytesWorld_below8 w e s) (fun j hj => Lib.bytesWorld_cell w e s j hj))
theorem Tk.getD_is (l : List UInt8) (k : Nat) (h : k < l.length) : l.getD k 0 = l[k] := by rw [List.getD_eq_getElem?_getD, List.getElem?_eq_getElem h]; rfl
theorem Tk.nmd_bad (l : List UInt8) (k : Nat) (hk : k < l.length) (h : Tk.isL (l.getD k 0).toNat = false ∧ (k = 0 ∨ Tk.isD (l.getD k 0).toNat = false)) : Tk.nmd l = false := by
  have e := Tk.getD_is l k hk
  rcases h.2 with rfl | h2
  · unfold Tk.nmd
    have : l.headD 0 = l.getD 0 0 := by cases l <;> rfl
    rw [this, h.1]; simp
  · unfold Tk.nmd
    rw [Tk.allW_no l k hk (by rw [← e]; unfold Tk.isW; rw [h.1, h2]; rfl)]; simp
theorem Tk.nmd_good (l : List UInt8) (h1 : 1 ≤ l.length) (h2 : l.length ≤ 32) (h : ∀ j, j < l.length → Tk.isL (l.getD j 0).toNat = true ∨ (0 < j ∧ Tk.isD (l.getD j 0).toNat = true)) : Tk.nmd l = !Tk.rsv l := by
  unfold Tk.nmd
  have : l.headD 0 = l.getD 0 0 := by cases l <;> rfl
  have h0 : Tk.isL (l.getD 0 0).toNat = true := by
    rcases h 0 h1 with h | h
    · exact h
    · exact absurd h.1 (Nat.lt_irrefl _)
  rw [this, h0, decide_eq_true ⟨h1, h2⟩, Tk.allW_of l (fun j hj => by
    have := h j hj; rw [Tk.getD_is l j hj] at this; unfold Tk.isW
    rcases this with h | h
    · rw [h]; rfl
    · rw [h.2]; exact Bool.or_true _)]
  simp
theorem Tk.nmd_long (l : List UInt8) (h : ¬ (1 ≤ l.length ∧ l.length ≤ 32)) : Tk.nmd l = false := by
  unfold Tk.nmd; rw [decide_eq_false h]; rfl
end Go.Proofs.Ythdckndjggljpaa
