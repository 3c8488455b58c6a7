/- Opening a law's argument that is a state of the machine, or bytes. No condition. -/
import Derived.Test.YtfjgnhmmakeaeaaB0
import Derived.Test.YtfjgnhmmakeaeaaB1
import Derived.Lib.SmallJoins
namespace Go.Proofs.Ytfjgnhmmakeaeaa
open Go.ChangeShapes Go.WideShapes Go.ChangeAt Go.RowKit
set_option linter.unusedVariables false
set_option linter.unusedSimpArgs false
set_option maxRecDepth 100000

theorem op_bytes {H : Type} {enc : TypeId × Value → H} {W : World} {base : Nat} {v : Value} {d : DataW H} {p : List MemPlace} (hv : Value.okWide Try.prog W .any base 28 v)
    (h : DataW.Trod enc Try.prog W 0 (fun _ => true) true 28 v d p) : ∃ (n : Nat) (xs : List Int), Rd W 1 v n (xs.map (Value.int .u8)) ∧ ∀ x ∈ xs, 0 ≤ x ∧ x < 256 := by
  obtain ⟨n, xs, h1, h2⟩ := op_slice_int Try.underlying28 Try.underlying5 (by kernel_rfl) hv h
  refine ⟨n, xs, h1, fun x hx => ?_⟩
  have := h2 x hx
  simp [Lit.wf, IntKind.min, IntKind.max, IntKind.signed, IntKind.bits] at this
  omega
theorem array14 {α : Type} {cs : Array α} (h : cs.size = 14) : ∃ c0 c1 c2 c3 c4 c5 c6 c7 c8 c9 c10 c11 c12 c13, cs = #[c0, c1, c2, c3, c4, c5, c6, c7, c8, c9, c10, c11, c12, c13] := by
  obtain ⟨l⟩ := cs
  match l, h with
  | [c0, c1, c2, c3, c4, c5, c6, c7, c8, c9, c10, c11, c12, c13], _ => exact ⟨c0, c1, c2, c3, c4, c5, c6, c7, c8, c9, c10, c11, c12, c13, rfl⟩
section
variable {H : Type} {enc : TypeId × Value → H} {W : World}
theorem op_int1 {m : Nat} {c : Value} {x : DataW H × List MemPlace} (h : DataW.trod enc Try.prog W 0 (fun _ => true) true m 3 [c] = some x) : ∃ a : Int, c = .int .i64 a := by
  obtain ⟨a, e0, _, wa⟩ := DataW.trod_int Try.underlying3 h
  simp at e0; exact ⟨a, e0⟩
theorem op_bool1 {m : Nat} {c : Value} {x : DataW H × List MemPlace} (h : DataW.trod enc Try.prog W 0 (fun _ => true) true m 4 [c] = some x) : ∃ a : Bool, c = .bool a := by
  obtain ⟨a, e0, _⟩ := DataW.trod_bool Try.underlying4 h
  simp at e0; exact ⟨a, e0⟩
theorem op_at {α : Type} {o : Option α} {xs : List α} {i : Nat} (h : o = xs[i]?) (hi : i < xs.length) : ∃ y, o = some y := ⟨_, h.trans (List.getElem?_eq_getElem hi)⟩
theorem op_regs {m : Nat} {c0 c1 c2 c3 c4 c5 c6 c7 : Value} {x : DataW H × List MemPlace} (h : DataW.trod enc Try.prog W 0 (fun _ => true) true m 23 [c0, c1, c2, c3, c4, c5, c6, c7] = some x) :
    ∃ r0 r1 r2 r3 r4 r5 r6 r7 : Int, c0 = .int .i64 r0 ∧ c1 = .int .i64 r1 ∧ c2 = .int .i64 r2 ∧ c3 = .int .i64 r3 ∧ c4 = .int .i64 r4 ∧ c5 = .int .i64 r5 ∧ c6 = .int .i64 r6 ∧ c7 = .int .i64 r7 := by
  obtain ⟨xs, n, _, _, _, hn, hf⟩ := DataW.trod_array Try.underlying23 h
  have hc : Try.prog.cellsOf 3 = 1 := by kernel_rfl
  simp only [hc, Nat.mul_one] at hf
  obtain ⟨_, h0⟩ := op_at (hf 0 (by omega)) (by omega)
  obtain ⟨_, h1⟩ := op_at (hf 1 (by omega)) (by omega)
  obtain ⟨_, h2⟩ := op_at (hf 2 (by omega)) (by omega)
  obtain ⟨_, h3⟩ := op_at (hf 3 (by omega)) (by omega)
  obtain ⟨_, h4⟩ := op_at (hf 4 (by omega)) (by omega)
  obtain ⟨_, h5⟩ := op_at (hf 5 (by omega)) (by omega)
  obtain ⟨_, h6⟩ := op_at (hf 6 (by omega)) (by omega)
  obtain ⟨_, h7⟩ := op_at (hf 7 (by omega)) (by omega)
  obtain ⟨a0, e0⟩ := op_int1 h0
  obtain ⟨a1, e1⟩ := op_int1 h1
  obtain ⟨a2, e2⟩ := op_int1 h2
  obtain ⟨a3, e3⟩ := op_int1 h3
  obtain ⟨a4, e4⟩ := op_int1 h4
  obtain ⟨a5, e5⟩ := op_int1 h5
  obtain ⟨a6, e6⟩ := op_int1 h6
  obtain ⟨a7, e7⟩ := op_int1 h7
  exact ⟨a0, a1, a2, a3, a4, a5, a6, a7, e0, e1, e2, e3, e4, e5, e6, e7⟩
theorem op_flags {m : Nat} {c0 c1 c2 c3 : Value} {x : DataW H × List MemPlace} (h : DataW.trod enc Try.prog W 0 (fun _ => true) true m 25 [c0, c1, c2, c3] = some x) :
    ∃ r0 r1 r2 r3 : Bool, c0 = .bool r0 ∧ c1 = .bool r1 ∧ c2 = .bool r2 ∧ c3 = .bool r3 := by
  obtain ⟨xs, n, _, _, _, hn, hf⟩ := DataW.trod_struct Try.underlying25 h
  have hc : Try.prog.cellsOf 4 = 1 := by kernel_rfl
  have hn' : xs.length = 4 := hn
  obtain ⟨_, h0⟩ := op_at (show DataW.trod enc Try.prog W 0 (fun _ => true) true n 4 (List.take (Try.prog.cellsOf 4) (List.drop 0 [c0, c1, c2, c3])) = xs[0]? from hf 0 _ rfl) (by omega)
  obtain ⟨_, h1⟩ := op_at (show DataW.trod enc Try.prog W 0 (fun _ => true) true n 4 (List.take (Try.prog.cellsOf 4) (List.drop 1 [c0, c1, c2, c3])) = xs[1]? from hf 1 _ rfl) (by omega)
  obtain ⟨_, h2⟩ := op_at (show DataW.trod enc Try.prog W 0 (fun _ => true) true n 4 (List.take (Try.prog.cellsOf 4) (List.drop 2 [c0, c1, c2, c3])) = xs[2]? from hf 2 _ rfl) (by omega)
  obtain ⟨_, h3⟩ := op_at (show DataW.trod enc Try.prog W 0 (fun _ => true) true n 4 (List.take (Try.prog.cellsOf 4) (List.drop 3 [c0, c1, c2, c3])) = xs[3]? from hf 3 _ rfl) (by omega)
  rw [hc] at h0 h1 h2 h3
  obtain ⟨a0, e0⟩ := op_bool1 h0
  obtain ⟨a1, e1⟩ := op_bool1 h1
  obtain ⟨a2, e2⟩ := op_bool1 h2
  obtain ⟨a3, e3⟩ := op_bool1 h3
  exact ⟨a0, a1, a2, a3, e0, e1, e2, e3⟩
theorem op_mem {m : Nat} {c : Value} {x : DataW H × List MemPlace} (h : DataW.trod enc Try.prog W 0 (fun _ => true) true m 22 [c] = some x) :
    ∃ (n : Nat) (xs : List Int), Rd W 1 c n (xs.map (Value.int .i64)) := by
  obtain ⟨a, l, k, e⟩ := Joins.slice_form Try.underlying22 h
  obtain rfl : c = .slice a l k := by simpa using e
  rcases open_ints Try.underlying22 Try.underlying3 (by kernel_rfl) h with ⟨hcs, _⟩ | ⟨x, l, c, zs, hcs, _, hl, hm, hz, _, hcell, hwz⟩
  · simp at hcs
    obtain ⟨rfl, rfl, rfl⟩ := hcs
    exact ⟨0, [], Rd.nil _ _⟩
  · simp at hcs
    obtain ⟨rfl, rfl, rfl⟩ := hcs
    have hzl : zs.length = k := by simpa using hz
    refine ⟨l, zs.take l, ⟨by simp; omega, by omega, some x, k, rfl, hl, fun hne => ?_⟩⟩
    obtain ⟨b, off, spot⟩ := x
    have hlen : 0 < zs.length := by
      rcases Nat.eq_zero_or_pos zs.length with h0 | h0
      · exfalso; apply hne; rw [List.eq_nil_of_length_eq_zero h0]; simp
      · exact h0
    have hc0 := hcell 0 hlen
    have hs : spot = none := by simpa [Addr.add] using World.cell?_spot hc0
    subst hs
    refine ⟨b, off, rfl, fun j u hu => ?_⟩
    rw [List.getElem?_map, List.getElem?_take] at hu
    split at hu
    · rename_i hj
      have hj' : j < zs.length := by omega
      rw [List.getElem?_eq_getElem hj'] at hu
      simp only [Option.map_some, Option.some.injEq] at hu
      subst hu
      have hthis := hcell j hj'
      have e : (⟨b, off, none⟩ : Addr).add j = ⟨b, off + j, none⟩ := by
        rcases j with _ | j <;> simp [Addr.add]
      rw [e] at hthis
      simpa [List.getD_eq_getElem?_getD, List.getElem?_eq_getElem hj'] using hthis
    · cases hu
theorem op_state {base : Nat} {v : Value} {d : DataW H} {p : List MemPlace} (hv : Value.okWide Try.prog W .any base 27 v)
    (h : DataW.Trod enc Try.prog W 0 (fun _ => true) true 27 v d p) : ∃ (r0 r1 r2 r3 r4 r5 r6 r7 : Int) (c z n v' : Bool) (pc : Int) (mv : Value) (mn : Nat) (ms : List Int),
      v = stV r0 r1 r2 r3 r4 r5 r6 r7 c z n v' pc mv ∧ Rd W 1 mv mn (ms.map (Value.int .i64)) := by
  obtain ⟨cs, rfl, hsz⟩ := okWide_struct Try.underlying27 hv
  have h14 : Try.prog.cellsOf 27 = 14 := by kernel_rfl
  obtain ⟨c0, c1, c2, c3, c4, c5, c6, c7, c8, c9, c10, c11, c12, c13, rfl⟩ := array14 (hsz.trans h14)
  obtain ⟨fuel, hf⟩ := h
  obtain ⟨xs, n, _, _, _, hn, hf⟩ := DataW.trod_struct Try.underlying27 hf
  have hn' : xs.length = 4 := hn
  have k0 : Try.prog.cellsOf 23 = 8 := by kernel_rfl
  have k1 : Try.prog.cellsOf 25 = 4 := by kernel_rfl
  have k2 : Try.prog.cellsOf 3 = 1 := by kernel_rfl
  have k3 : Try.prog.cellsOf 22 = 1 := by kernel_rfl
  obtain ⟨_, h0⟩ := op_at (show DataW.trod enc Try.prog W 0 (fun _ => true) true n 23 (List.take (Try.prog.cellsOf 23) (List.drop 0 [c0, c1, c2, c3, c4, c5, c6, c7, c8, c9, c10, c11, c12, c13])) = xs[0]? from hf 0 _ rfl) (by omega)
  obtain ⟨_, h1⟩ := op_at (show DataW.trod enc Try.prog W 0 (fun _ => true) true n 25 (List.take (Try.prog.cellsOf 25) (List.drop 8 [c0, c1, c2, c3, c4, c5, c6, c7, c8, c9, c10, c11, c12, c13])) = xs[1]? from hf 1 _ rfl) (by omega)
  obtain ⟨_, h2⟩ := op_at (show DataW.trod enc Try.prog W 0 (fun _ => true) true n 3 (List.take (Try.prog.cellsOf 3) (List.drop 12 [c0, c1, c2, c3, c4, c5, c6, c7, c8, c9, c10, c11, c12, c13])) = xs[2]? from hf 2 _ rfl) (by omega)
  obtain ⟨_, h3⟩ := op_at (show DataW.trod enc Try.prog W 0 (fun _ => true) true n 22 (List.take (Try.prog.cellsOf 22) (List.drop 13 [c0, c1, c2, c3, c4, c5, c6, c7, c8, c9, c10, c11, c12, c13])) = xs[3]? from hf 3 _ rfl) (by omega)
  rw [k0] at h0; rw [k1] at h1; rw [k2] at h2; rw [k3] at h3
  obtain ⟨r0, r1, r2, r3, r4, r5, r6, r7, rfl, rfl, rfl, rfl, rfl, rfl, rfl, rfl⟩ := op_regs h0
  obtain ⟨f0, f1, f2, f3, rfl, rfl, rfl, rfl⟩ := op_flags h1
  obtain ⟨pc, rfl⟩ := op_int1 h2
  obtain ⟨mn, ms, hm⟩ := op_mem h3
  exact ⟨r0, r1, r2, r3, r4, r5, r6, r7, f0, f1, f2, f3, pc, c13, mn, ms, rfl, hm⟩
end
end Go.Proofs.Ytfjgnhmmakeaeaa
