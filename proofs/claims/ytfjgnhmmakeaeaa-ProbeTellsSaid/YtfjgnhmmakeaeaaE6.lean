/- instr.One, whole: what it gives of any words. -/
import Derived.Test.YtfjgnhmmakeaeaaE4
import Derived.Test.YtfjgnhmmakeaeaaE5
namespace Go.Proofs.Ytfjgnhmmakeaeaa
open Go.RowKit
set_option linter.unusedVariables false
set_option linter.unusedSimpArgs false
set_option maxRecDepth 100000

namespace U
/-- An instruction, and how many words it is (0: there is none). -/
structure Ins where
  op : Int
  d : Int
  s : Int
  imm : Int
  n : Int
def Ins.none : Ins := ⟨0, 0, 0, 0, 0⟩
def opOf (x : Int) : Int := x / 1024
def dOf (x : Int) : Int := x / 128 % 8
def sOf (x : Int) : Int := x / 16 % 8
/-- Is the word an instruction's first word? -/
def first (x : Int) : Bool := hk (opOf x) && decide (x % 16 = 0) && (hd (opOf x) || decide (dOf x = 0)) && (hs (opOf x) || decide (sOf x = 0))
def one (ws : List Int) (pc : Int) : Ins :=
  if pc < 0 ∨ (ws.length : Int) ≤ pc then .none
  else if wd (ws.getD pc.toNat 0) = false then .none
  else if first (ws.getD pc.toNat 0) = false then .none
  else if hi (opOf (ws.getD pc.toNat 0)) = false then ⟨opOf (ws.getD pc.toNat 0), dOf (ws.getD pc.toNat 0), sOf (ws.getD pc.toNat 0), 0, 1⟩
  else if (ws.length : Int) ≤ pc + 1 then .none
  else if wd (ws.getD (pc.toNat + 1) 0) = false then .none
  else ⟨opOf (ws.getD pc.toNat 0), dOf (ws.getD pc.toNat 0), sOf (ws.getD pc.toNat 0), ws.getD (pc.toNat + 1) 0, 2⟩
end U
theorem i64_wraps (n : Int) (h₀ : 0 ≤ n) (h₁ : n < 2 ^ 32) : IntKind.i64.wrap n = n := by rw [IntKind.wrap_i64]; omega
theorem i64_and7 (x : Int) (h₀ : 0 ≤ x) (h₁ : x < 4294967296) : bits .and .i64 x 7 = x % 8 := bits_mask .i64 32 (by decide) i64_wraps 3 (by decide) x h₀ (by omega)
theorem i64_and15 (x : Int) (h₀ : 0 ≤ x) (h₁ : x < 4294967296) : bits .and .i64 x 15 = x % 16 := bits_mask .i64 32 (by decide) i64_wraps 4 (by decide) x h₀ (by omega)
theorem one_ok (v : Value) (n : Nat) (ws : List Int) (hn : n ≤ 70000) (pc : Int) (w : World) (hr : Rd w 1 v n (ws.map (Value.int .i64))) :
    Calls Try.prog 42 #[v, .int .i64 pc] w (OneR (U.one ws pc).op (U.one ws pc).d (U.one ws pc).s (U.one ws pc).imm (U.one ws pc).n w) := by
  obtain ⟨hl, hm, a, cap, rfl, hcap, hcell⟩ := hr.ints
  unfold U.one
  by_cases h0 : pc < 0
  · rw [if_pos (.inl h0)]; exact one_low _ a n cap rfl pc h0 w
  obtain ⟨k, rfl⟩ := Int.eq_ofNat_of_zero_le (show 0 ≤ pc by omega)
  by_cases h1 : n ≤ k
  · rw [if_pos (.inr (by omega))]; exact one_high a n cap k h1 w
  rw [if_neg (by omega), Int.toNat_natCast]
  obtain ⟨b, off, rfl, hc⟩ := hcell (by omega)
  have hck := hc k (by omega)
  obtain ⟨x, hx⟩ : ∃ x, x = ws.getD k 0 := ⟨_, rfl⟩
  rw [← hx] at hck ⊢
  by_cases hw : U.wd x = false
  · rw [if_pos hw]; exact one_word b off n cap k x (by omega) (by omega) hw w hck
  rw [if_neg hw]
  have hxb : 0 ≤ x ∧ x ≤ 65535 := by
    have : U.wd x = true := by simpa using hw
    simpa [U.wd] using this
  have eD : bits .and .i64 (x / 128) 7 = U.dOf x := i64_and7 _ (by omega) (by omega)
  have eS : bits .and .i64 (x / 16) 7 = U.sOf x := i64_and7 _ (by omega) (by omega)
  have eZ : bits .and .i64 x 15 = x % 16 := i64_and15 _ hxb.1 (by omega)
  have CO : Hid (∀ w : World, Calls Try.prog 47 #[.int .i64 (U.opOf x)] w fun e w' => e = .returned (usV (U.hd (U.opOf x)) (U.hs (U.opOf x)) (U.hi (U.opOf x)) (U.hk (U.opOf x))) ∧ Below w.heap.size w w') := fun w => of_any _ w
  have ez : (x % 16 != 0) = !decide (x % 16 = 0) := by rw [bne]; congr 1
  have ed : (U.dOf x != 0) = !decide (U.dOf x = 0) := by rw [bne]; congr 1
  have es : (U.sOf x != 0) = !decide (U.sOf x = 0) := by rw [bne]; congr 1
  by_cases hf : U.first x = false
  · rw [if_pos hf]
    refine one_bad b off n cap k x _ _ _ _ _ _ _ _ _ _ _ (by omega) hn hxb.1 hxb.2 w hck rfl eD eS eZ ez ed es CO ?_
    unfold U.first at hf
    cases h1 : U.hk (U.opOf x) <;> cases h2 : decide (x % 16 = 0) <;> cases h3 : U.hd (U.opOf x) <;> cases h4 : decide (U.dOf x = 0) <;> cases h5 : U.hs (U.opOf x) <;> cases h6 : decide (U.sOf x = 0) <;> simp_all
  rw [if_neg hf]
  have hg : U.hk (U.opOf x) = true ∧ (!decide (x % 16 = 0)) = false ∧ ((U.hd (U.opOf x) = true) ∨ (U.hd (U.opOf x) = false ∧ (!decide (U.dOf x = 0)) = false)) ∧ ((U.hs (U.opOf x) = true) ∨ (U.hs (U.opOf x) = false ∧ (!decide (U.sOf x = 0)) = false)) := by
    unfold U.first at hf
    cases h1 : U.hk (U.opOf x) <;> cases h2 : decide (x % 16 = 0) <;> cases h3 : U.hd (U.opOf x) <;> cases h4 : decide (U.dOf x = 0) <;> cases h5 : U.hs (U.opOf x) <;> cases h6 : decide (U.sOf x = 0) <;> simp_all
  by_cases hi : U.hi (U.opOf x) = false
  · rw [if_pos hi]
    exact one_one b off n cap k x _ _ _ _ _ _ _ _ _ _ _ (by omega) hn hxb.1 hxb.2 w hck rfl eD eS eZ ez ed es CO hi hg
  rw [if_neg hi]
  have hi' : U.hi (U.opOf x) = true := by simpa using hi
  by_cases he : n ≤ k + 1
  · rw [if_pos (by omega)]
    exact one_end b off n cap k x _ _ _ _ _ _ _ _ _ _ _ (by omega) hn hxb.1 hxb.2 w hck rfl eD eS eZ ez ed es CO hi' (by omega) hg
  rw [if_neg (by omega)]
  have hcy := hc (k + 1) (by omega)
  by_cases hy : U.wd (ws.getD (k + 1) 0) = false
  · rw [if_pos hy]
    exact one_y b off n cap k x _ _ _ _ _ _ _ _ _ _ _ (by omega) hn hxb.1 hxb.2 w hck rfl eD eS eZ ez ed es CO hi' (by omega) _ _ rfl hy hcy hg
  · rw [if_neg hy]
    exact one_two b off n cap k x _ _ _ _ _ _ _ _ _ _ _ (by omega) hn hxb.1 hxb.2 w hck rfl eD eS eZ ez ed es CO hi' (by omega) _ _ rfl (by simpa using hy) hcy hg
end Go.Proofs.Ytfjgnhmmakeaeaa
