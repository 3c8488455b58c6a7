/- The machine's stack: walks of push and pop. -/
import Derived.Test.YtfjgnhmmakeaeaaE7
import Derived.Test.YtfjgnhmmakeaeaaIx
namespace Go.Proofs.Ytfjgnhmmakeaeaa
open Go.RowKit
set_option linter.unusedVariables false
set_option linter.unusedSimpArgs false
set_option maxRecDepth 100000
open Mc

theorem Mach.drew {w : World} {B : Nat} {L : Lay} {s : St} {ov : Value} (h : Mach w B L s ov) : Mach w.drew B L s ov := h.keep (Ext.drew (Below.refl _ _))
theorem Mach.drewN {w : World} {B : Nat} {L : Lay} {s : St} {ov : Value} (h : Mach w B L s ov) (n : Nat) : Mach (w.drewN n) B L s ov := h.keep (Ext.drewN (Below.refl _ _) n)
theorem Mach.setRead {w : World} {B : Nat} {L : Lay} {s : St} {ov : Value} (h : Mach w B L s ov) (k : Nat) (x : Int) (hx : x = (k : Int)) : Mach (w.setCell ⟨L.mb, 19, none⟩ (.int .i64 x)) B L { s with read := k } ov := by
  subst hx; exact h.set 19 _ { s with read := k } rfl rfl rfl
/-- The stack's register is turned, and a word stored. -/
def Mc.pushed (s : St) (x : Int) : St := { s with r := upd s.r 7 ((s.r 7 - 1) % 65536), mem := upd s.mem ((s.r 7 - 1) % 65536).toNat (x % 65536) }
set_option maxHeartbeats 2000000 in
theorem mpush_ok (B : Nat) (L : Lay) (s : St) (ov : Value) (x : Int) (w : World) (h : Mach w B L s ov) (hr : 0 ≤ s.r 7 ∧ s.r 7 < 65536) :
    Calls Try.prog 81 #[mP L, .int .i64 x] w (Turn B L (Mc.pushed s x) ov (.tuple #[]) w) := by
  obtain ⟨c7, f7⟩ := h.reg 7 (by decide)
  obtain ⟨X, hX⟩ : ∃ X, X = s.r 7 := ⟨_, rfl⟩
  have hand : bits .and .i64 (X - 1) 65535 = (X - 1) % 65536 := and65 _
  obtain ⟨Y, hY⟩ : ∃ Y, Y = (X - 1) % 65536 := ⟨_, rfl⟩
  rw [← hX] at c7 hr
  rw [← hY] at hand
  obtain ⟨x0, x1⟩ := hr
  have hm : Y % 65536 = Y := by omega
  have CS : Hid (∀ w1 : World, Mach w1 B L { s with r := upd s.r 7 Y } ov → Calls Try.prog 77 #[mP L, .int .i64 Y, .int .i64 x] w1 (Turn B L (Mc.pushed s x) ov (.tuple #[]) w1)) := fun w1 h1 => by
    have := mstore_ok B L _ ov Y x w1 h1
    rw [hm] at this
    unfold Mc.pushed
    rw [← hX, ← hY]; exact this
  have H := Lib.hid h
  clear h hX hY hm
  go_enter Try.func81, Try.ntmps81
  go_wp2
  go_region
  go_wp2_with (first | (go_at_call 77; refine (CS.out _ (H.out.setR 7 (by decide) _).drew).mono ?_; rintro e w1 ⟨rfl, hm1, hb1⟩; have HM := Lib.hid hm1; have HB := Lib.hid hb1; clear hm1 hb1))
  exact bodyPost_ret (v := .tuple #[]) (by simp [results, Try.results81, go_sem]) rfl ⟨rfl, HM.out, Tch.trans (Tch.drew (Tch.cell (Tch.refl _ _) (.inl rfl) _)) HB.out⟩
def Mc.popped (s : St) : St := { s with r := upd s.r 7 ((s.r 7 + 1) % 65536) }
set_option maxHeartbeats 2000000 in
theorem mpop_ok (B : Nat) (L : Lay) (s : St) (ov : Value) (w : World) (h : Mach w B L s ov) (hr : 0 ≤ s.r 7 ∧ s.r 7 < 65536) :
    Calls Try.prog 82 #[mP L] w (Turn B L (Mc.popped s) ov (.int .i64 (s.mem (s.r 7).toNat)) w) := by
  obtain ⟨c7, f7⟩ := h.reg 7 (by decide)
  obtain ⟨X, hX⟩ : ∃ X, X = s.r 7 := ⟨_, rfl⟩
  have hand : bits .and .i64 (X + 1) 65535 = (X + 1) % 65536 := and65 _
  obtain ⟨Y, hY⟩ : ∃ Y, Y = (X + 1) % 65536 := ⟨_, rfl⟩
  rw [← hX] at c7 hr ⊢
  rw [← hY] at hand
  obtain ⟨x0, x1⟩ := hr
  have hm : X % 65536 = X := by omega
  obtain ⟨Z, hZ⟩ : ∃ Z, Z = s.mem X.toNat := ⟨_, rfl⟩
  rw [← hZ]
  have CS : Hid (∀ w1 : World, Mach w1 B L s ov → Calls Try.prog 76 #[mP L, .int .i64 X] w1 (fun e w' => e = .returned (.int .i64 Z) ∧ w1 = w')) := fun w1 h1 => by
    have := mload_ok B L s ov X w1 h1
    rw [hm, ← hZ] at this; exact this
  have HP : Hid (Mc.popped s = { s with r := upd s.r 7 Y }) := by show Mc.popped s = _; unfold Mc.popped; rw [← hX, ← hY]
  have H := Lib.hid h
  clear h hX hY hm hZ
  go_enter Try.func82, Try.ntmps82
  go_wp2_with (first | (go_at_call 76; refine (CS.out _ H.out).mono ?_; rintro e w' ⟨rfl, rfl⟩))
  go_region
  go_wp2
  go_ret
  exact ⟨rfl, by rw [HP.out]; exact (H.out.setR 7 (by decide) _).drew, Tch.drew (Tch.cell (Tch.refl _ _) (.inl rfl) _)⟩
theorem one_at {w : World} {g : Nat} {x : Value} (h : w.cell? ⟨g, 0, none⟩ = some x) : ∀ j u, [x][j]? = some u → w.cell? ((⟨g, 0, none⟩ : Addr).add j) = some u := by
  intro j u hj
  rcases j with _ | j
  · simp at hj; subst hj; exact h
  · simp at hj
/-- A slice below block B that reads as these cells. -/
def RdB (w : World) (B : Nat) (v : Value) (n : Nat) (cs : List Value) : Prop := Rd w 1 v n cs ∧ (0 < n → ∀ a m c, v = .slice (some a) m c → a.block < B)
theorem RdB.of {w0 : World} {v : Value} {n : Nat} {cs : List Value} (h : Rd w0 1 v n cs) : RdB w0 w0.heap.size v n cs := by
  refine ⟨h, fun hn a m c hv => ?_⟩
  obtain ⟨h1, h2, a', cap, hv', hc, hr⟩ := h
  have hne : cs ≠ [] := (by intro e; subst e; simp at h1; omega)
  obtain ⟨b, off, ha, hj⟩ := hr hne
  rw [hv] at hv'
  injection hv' with e1 e2 e3
  rw [ha] at e1; injection e1 with e1; subst e1
  have : (cs[0]? : Option Value) = some (cs[0]'(by omega)) := List.getElem?_eq_getElem (by omega)
  exact World.block_lt_of_cell? w0 ⟨b, off + 0, none⟩ (hj 0 _ this)
theorem RdB.below {w w' : World} {B : Nat} {v : Value} {n : Nat} {cs : List Value} (h : RdB w B v n cs) (hb : Below B w w') : RdB w' B v n cs := by
  obtain ⟨⟨h1, h2, a, cap, hv, hc, hr⟩, hB⟩ := h
  refine ⟨⟨h1, h2, a, cap, hv, hc, fun hne => ?_⟩, hB⟩
  obtain ⟨b, off, ha, hj⟩ := hr hne
  have hn : 0 < n := (by rcases Nat.eq_zero_or_pos n with h | h; exact absurd (List.eq_nil_of_length_eq_zero (by omega)) hne; exact h)
  have hlt : b < B := hB hn ⟨b, off, none⟩ n cap (by rw [hv, ha])
  exact ⟨b, off, ha, fun j u hu => by rw [Below.cell (w := w) hb (p := ⟨b, off + j, none⟩) hlt]; exact hj j u hu⟩
/-- A byte that comes in. -/
def Mc.came (inp : List Int) (d : Nat) (s : St) : St :=
  if inp.length = s.read then { s with c := true, r := upd s.r d 0 }
  else { s with c := false, r := upd (upd s.r d 0) d (inp.getD s.read 0), read := s.read + 1 }
set_option maxHeartbeats 2000000 in
theorem mcome_ok (B : Nat) (L : Lay) (s : St) (ov : Value) (n : Nat) (inp : List Int) (d : Nat) (hd : d < 8) (w : World) (h : Mach w B L s ov) (hib : RdB w B L.iv n (inp.map (Value.int .u8))) (hn : n ≤ 65536) (hrd : s.read ≤ n) (hby : ∀ x ∈ inp, 0 ≤ x ∧ x < 256) :
    Calls Try.prog 83 #[mP L, .int .i64 (d : Int)] w (Turn B L (Mc.came inp d s) ov (.tuple #[]) w) := by
  obtain ⟨c8, f8⟩ := h.at_ 8 (.bool s.c) rfl
  obtain ⟨c19, f19⟩ := h.at_ 19 (.int .i64 (s.read : Int)) rfl
  obtain ⟨hi, hfar⟩ := hib
  obtain ⟨hl, hm, a, cap, hv, hcap, hcell⟩ := hi.ints
  obtain ⟨c15, f15⟩ := h.at_ 15 L.iv rfl
  rw [hv] at c15
  obtain ⟨cd, fd⟩ := h.reg d hd
  obtain ⟨X, hX⟩ : ∃ X, X = s.r d := ⟨_, rfl⟩
  rw [← hX] at cd
  obtain ⟨R, hR⟩ : ∃ R, R = s.read := ⟨_, rfl⟩
  rw [← hR] at c19 hrd
  have d8 : ¬ d = 8 := by omega
  have d19 : ¬ d = 19 := by omega
  have d15 : ¬ d = 15 := by omega
  have H := Lib.hid h
  by_cases he : R = n
  · subst he
    have HP : Hid (Mc.came inp d s = { s with c := true, r := upd s.r d 0 }) := by show Mc.came inp d s = _; unfold Mc.came; rw [if_pos (by omega)]
    clear h hi hv hcell hR hl hfar hby
    go_enter Try.func83, Try.ntmps83
    go_wp2
    go_region
    go_wp2
    exact bodyPost_ret (v := .tuple #[]) (by simp [results, Try.results83, go_sem]) rfl ⟨rfl, by rw [HP.out]; exact ((H.out.set 8 (.bool true) { s with c := true } rfl rfl rfl).drew.setR d hd 0), Tch.cell (Tch.drew (Tch.cell (Tch.refl _ _) (.inl rfl) _)) (.inl rfl) _⟩
  · obtain ⟨b, off, rfl, hc⟩ := hcell (by omega)
    have hR2 : R < n := by omega
    have hci := hc R hR2
    obtain ⟨Z, hZ⟩ : ∃ Z, Z = inp.getD R 0 := ⟨_, rfl⟩
    rw [← hZ] at hci
    have HP : Hid (Mc.came inp d s = { s with c := false, r := upd (upd s.r d 0) d Z, read := s.read + 1 }) := by show Mc.came inp d s = _; unfold Mc.came; rw [if_neg (by omega), ← hR, ← hZ]
    have hbB : b < B := hfar (by omega) _ _ _ hv
    have hne1 : ¬ b = L.mb := (by have := H.out.lo1; omega)
    have hRn : ((R : Int) == (n : Int)) = false := (by simp; omega)
    have hsg : IntKind.i64.signed = true := rfl
    have hw64 : IntKind.i64.wrap Z = Z := by
      have hz : 0 ≤ Z ∧ Z < 256 := (by rw [hZ, List.getD_eq_getElem?_getD, List.getElem?_eq_getElem (show R < inp.length by omega)]; exact hby _ (List.getElem_mem _))
      rw [IntKind.wrap_i64]; omega
    have HR := Lib.hid hR
    clear h hi hv hcell hc hl hfar hR hZ he hby
    go_enter Try.func83, Try.ntmps83
    go_wp2
    go_region
    go_wp2
    go_region
    go_wp2
    exact bodyPost_ret (v := .tuple #[]) (by simp [results, Try.results83, go_sem]) rfl ⟨rfl, by rw [HP.out]; exact (((((H.out.set 8 (.bool false) { s with c := false } rfl rfl rfl).setR d hd 0).setR d hd Z).setRead (s.read + 1) _ (by rw [HR.out]; rfl)).drew.drew), Tch.drew (Tch.drew (Tch.cell (Tch.cell (Tch.cell (Tch.cell (Tch.refl _ _) (.inl rfl) _) (.inl rfl) _) (.inl rfl) _) (.inl rfl) _))⟩
end Go.Proofs.Ytfjgnhmmakeaeaa
