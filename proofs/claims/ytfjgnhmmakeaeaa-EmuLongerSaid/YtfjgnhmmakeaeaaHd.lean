/- Regions that draw their order, with loads and calls that only make memory: one walk in the order of the text, over a class of worlds that such calls keep. No condition. -/
import Derived.Test.YtfjgnhmmakeaeaaSm
import Derived.Deep.QuietTactic
import Derived.BigQuiet
namespace Go.Proofs.Ytfjgnhmmakeaeaa
open Go.RowKit
set_option linter.unusedVariables false
namespace Hd

/-- What calls that only make memory leave true. -/
def Keeps (S : World → Prop) : Prop := ∀ w w', S w → Below w.heap.size w w' → S w'
theorem Keeps.and {S T : World → Prop} (h : Keeps S) (k : Keeps T) : Keeps (fun w => S w ∧ T w) := fun w w' hs hb => ⟨h w w' hs.1 hb, k w w' hs.2 hb⟩
theorem Keeps.cell (b o : Nat) (v : Value) : Keeps (fun w => w.cell? ⟨b, o, none⟩ = some v) := fun w w' hs hb => by
  show w'.cell? ⟨b, o, none⟩ = some v
  rw [(bcell hb).1 _ _ (World.block_lt_of_cell? w ⟨b, o, none⟩ hs)]; exact hs
theorem Keeps.free (b o : Nat) (v : Value) : Keeps (fun w => w.cell? ⟨b, o, none⟩ = some v ∧ w.frozen? ⟨b, o, none⟩ = false) := fun w w' hs hb =>
  ⟨Keeps.cell b o v w w' hs.1 hb, by show w'.frozen? ⟨b, o, none⟩ = false; rw [(bcell hb).2 _ _ (World.block_lt_of_cell? w ⟨b, o, none⟩ hs.1)]; exact hs.2⟩
theorem Keeps.below (w0 : World) : Keeps (fun w => Below w0.heap.size w0 w) := fun w w' hs hb => Ext.trans hs hb
theorem Keeps.rd (size : Nat) (v : Value) (n : Nat) (cs : List Value) : Keeps (fun w => Rd w size v n cs) := fun w w' hs hb => hs.below hb
theorem Keeps.hid {S : World → Prop} (h : Keeps S) : Keeps (fun w => Hid (S w)) := fun w w' hs hb => h w w' hs.out hb

theorem quiet_mono {P : Program} {ops : Array Oper} {C : World → Prop} {Q Q' : Act → Prop} (h : ∀ a, Q a → Q' a) : ∀ (l : List Oper) (a : Act), wpQuiet P ops C Q l a → wpQuiet P ops C Q' l a
  | [], a, hh => h a hh
  | o :: rest, a, hh => by
    unfold wpQuiet at hh ⊢
    split
    · rename_i hw; rw [if_pos hw] at hh; exact Oper.quiet_mono (quiet_mono h rest) hh
    · rename_i hw; rw [if_neg hw] at hh; exact quiet_mono h rest _ hh
/-- The region's law: 'wd' runs through the worlds of the class. -/
theorem wp_region {P : Program} {id : Nat} {Q : Exit → Act → World → Prop} {a : Act} {w : World} {l : List Oper} (S : World → Prop) (hm : P.follows .mixedOrders = true) (hB : Region.lexB .any l.toArray = true)
    (hk : Keeps S) (hS : S w)
    (h : ∀ (W : Type) (_ : Nonempty W) (wd : W → World) (ok : ∀ x, S (wd x)) (cl : Hid (∀ x w', Below (wd x).heap.size (wd x) w' → ∃ y, w' = wd y)) (cs : Hid (∀ w', S w' → ∃ y, w' = wd y)), wpQuiet P l.toArray (fun w' => ∃ x : W, w' = wd x) (fun a' => ∀ x : W, Q .normal a' (wd x)) l a) :
    (Code.region id l.toArray true).wp P Q a w := by
  have hd : S w.drew := hk _ _ hS (Ext.drew (Below.refl _ _))
  have key := h {w : World // S w} ⟨⟨w, hS⟩⟩ (fun x => x.1) (fun x => x.2) (fun x w' hb => ⟨⟨w', hk _ _ x.2 hb⟩, rfl⟩) (fun w' hs => ⟨⟨w', hs⟩, rfl⟩)
  refine Go.wp_region_quiet (C := fun w' => ∃ x : {w : World // S w}, w' = x.1) hm hB ⟨⟨_, hd⟩, rfl⟩ ?_
  refine quiet_mono ?_ _ _ key
  rintro a' hq w' ⟨x, rfl⟩
  exact hq x
end Hd
end Go.Proofs.Ytfjgnhmmakeaeaa
