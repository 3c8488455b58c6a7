/- The walk of the reference's Binary. -/
import Derived.Test.YtkmcniaaecijdaaPt2
import Derived.Test.YtkmcniaaecijdaaO6
import Derived.Test.YtkmcniaaecijdaaO3
import Derived.Test.YtkmcniaaecijdaaT6
import Derived.Test.YtkmcniaaecijdaaN26
import Derived.Test.YtkmcniaaecijdaaN27
namespace Go.Proofs.Ytkmcniaaecijdaa
open Go.RowKit Go.Maps
set_option linter.unusedVariables false
set_option linter.unusedSimpArgs false
set_option maxRecDepth 100000
set_option maxHeartbeats 8000000 in
theorem r7binary_do9 (a b xb yb T p q M1 M2 R E : Int) (xs ys TS : Bool)
    (VX : Hid (Gives 32 #[W.ty xb xs] (.bool true))) (VY : Hid (Gives 32 #[W.ty yb ys] (.bool true))) (NP : Hid (Gives 76 #[W.ty xb xs, W.ty yb ys] (W.ty T TS)))
    (CA : Hid (Gives 38 #[.int .u64 a, W.ty xb xs, W.ty T TS] (.int .u64 p))) (CB : Hid (Gives 38 #[.int .u64 b, W.ty yb ys, W.ty T TS] (.int .u64 q)))
    (MA : Hid (∀ w : World, Calls Try.prog 53 #[.int .u64 p, W.ty T TS] w (NewIo w M1))) (MB : Hid (∀ w : World, Calls Try.prog 53 #[.int .u64 q, W.ty T TS] w (NewIo w M2)))
    (DO : Hid (Gives 77 #[.int .u8 42, .int .u64 p, .int .u64 q, .int .i64 T, .bool TS] (.tuple #[.int .u64 R, .int .i64 E]))) (w : World) :
    Calls Try.prog 41 #[.int .i64 9, .int .u64 a, .int .u64 b, W.ty xb xs, W.ty yb ys] w (BiR R E w) := by
  have K0 := Lib.hid (Tl.start w xb yb xs ys)
  have tok := Lib.hid True.intro
  have CC : Hid (∀ (w : World) (g g2 : Nat), Io w g M1 → Io w g2 M2 → Calls Try.prog 52 #[P g, P g2] w fun e w' => ∃ C : Int, Hid (C = cmpZ M1 M2) ∧ e = .returned (.int .i64 C) ∧ ∃ m, w' = w.drewN m) := fun w g g2 a b =>
    (intCmp_ok g g2 M1 M2 w a b).mono fun e w' ⟨h1, h2⟩ => ⟨_, (rfl : cmpZ M1 M2 = cmpZ M1 M2), h1, h2⟩
  go_enter Try.func41, Try.ntmps41
  go_wp2_with (first | (go_at_call_of 32 (Value.agg #[Value.int IntKind.i64 xb, Value.bool xs]); have _t := tok; refine (VX.out _).mono ?_; rintro e w1 ⟨rfl, hb1⟩; have K1 := Lib.hid (K0.out.below hb1); clear hb1 tok _t; obtain ⟨x0, x1, x2, x3⟩ := K1.out.x; obtain ⟨y0, y1, y2, y3⟩ := K1.out.y) | (go_at_call 32; refine (VY.out _).mono ?_; rintro e w2 ⟨rfl, hb2⟩; have K2 := Lib.hid (K1.out.below hb2); clear hb2 x0 x1 x2 x3 y0 y1 y2 y3; obtain ⟨x0, x1, x2, x3⟩ := K2.out.x; obtain ⟨y0, y1, y2, y3⟩ := K2.out.y) | (go_at_call 76; refine (NP.out _).mono ?_; rintro e w3 ⟨rfl, hb3⟩; have K3 := Lib.hid ((K2.out.below hb3).below (Ext.alloc (Below.refl _ _) (.cells #[.int .i64 T, .bool TS] 31))); have P3 := Lib.hid (Ty.new w3 rfl T TS 31); clear hb3 x0 x1 x2 x3 y0 y1 y2 y3))
  generalize (w3.alloc (.cells #[.int .i64 T, .bool TS] 31)) = wx at *
  apply Ix.wp_region 10 (fun wi => Hid (Tl w xb xs yb ys wi) ∧ Hid (Ty wi w3.heap.size T TS)) (Ix.vk [(Ix.kis _), (Ix.kis _), (Ix.kis _), (Ix.kis (.int .u64 p)), (Ix.kis _), (Ix.kis _), (Ix.kis _), (Ix.kis (.int .u64 q)), (Ix.kis _), (Ix.kis _)]) (fun _ => false) (by kernel_rfl) (by kernel_rfl) (by kernel_rfl) (fun _ _ h hb => ⟨h.1.out.below hb, h.2.out.below hb⟩) (Ix.vk_keeps _) (Ix.not_al _) ⟨K3, P3⟩
  case step =>
    refine zyx 9 0 1 [] (fun wi HB => ?_) <| zyx 8 1 2 [] (fun wi HB => ?_) <| zyx 7 2 3 [] (fun wi HB => ?_) <| zyx 6 3 4 [(0, some 63), (1, some 64), (2, some 65)] (fun wi HB => ?_) <| zyx 5 4 5 [] (fun wi HB => ?_) <| zyx 4 5 6 [] (fun wi HB => ?_) <| zyx 3 6 7 [] (fun wi HB => ?_) <| zyx 2 7 8 [(4, some 67), (5, some 68), (6, some 69)] (fun wi HB => ?_) <| zyx 1 8 9 [(3, some 66)] (fun wi HB => ?_) <| zyx 0 9 10 [(7, some 70)] (fun wi HB => ?_) <| Ix.steps_nil
    (· ((repeat (refine zya ?_; rintro _ rfl)); refine zye ?_; (try simp only [zyp]); refine Ix.goI_yes rfl rfl fun K hK => ?_; (try simp only [zyp] at hK); go_wp2_with (first | fail); exact hK _ _ (Below.refl _ _) rfl))
    iterate 2 (· (obtain ⟨HB, HT⟩ := HB; obtain ⟨x0, x1, x2, x3⟩ := HB.out.x; obtain ⟨y0, y1, y2, y3⟩ := HB.out.y; obtain ⟨t0, t1, t2, t3⟩ := HT.out; (repeat (refine zya ?_; rintro _ rfl)); refine zye ?_; (try simp only [zyp]); refine Ix.goI_yes rfl rfl fun K hK => ?_; (try simp only [zyp] at hK); go_wp2_with (first | fail); exact hK _ _ (Below.refl _ _) rfl))
    (· (obtain ⟨HB, HT⟩ := HB; obtain ⟨x0, x1, x2, x3⟩ := HB.out.x; obtain ⟨y0, y1, y2, y3⟩ := HB.out.y; obtain ⟨t0, t1, t2, t3⟩ := HT.out; (repeat (refine zya ?_; rintro _ rfl)); refine zye ?_; (try simp only [zyp]); refine Ix.goI_yes rfl rfl fun K hK => ?_; (try simp only [zyp] at hK); go_wp2_with (first | (go_at_call_of 38 (Value.agg #[Value.int IntKind.i64 xb, Value.bool xs]); refine (CA.out _).mono ?_; rintro e wa ⟨rfl, hba⟩)); exact hK _ _ hba rfl))
    (· ((repeat (refine zya ?_; rintro _ rfl)); refine zye ?_; (try simp only [zyp]); refine Ix.goI_yes rfl rfl fun K hK => ?_; (try simp only [zyp] at hK); go_wp2_with (first | fail); exact hK _ _ (Below.refl _ _) rfl))
    iterate 2 (· (obtain ⟨HB, HT⟩ := HB; obtain ⟨x0, x1, x2, x3⟩ := HB.out.x; obtain ⟨y0, y1, y2, y3⟩ := HB.out.y; obtain ⟨t0, t1, t2, t3⟩ := HT.out; (repeat (refine zya ?_; rintro _ rfl)); refine zye ?_; (try simp only [zyp]); refine Ix.goI_yes rfl rfl fun K hK => ?_; (try simp only [zyp] at hK); go_wp2_with (first | fail); exact hK _ _ (Below.refl _ _) rfl))
    (· (obtain ⟨HB, HT⟩ := HB; obtain ⟨x0, x1, x2, x3⟩ := HB.out.x; obtain ⟨y0, y1, y2, y3⟩ := HB.out.y; obtain ⟨t0, t1, t2, t3⟩ := HT.out; (repeat (refine zya ?_; rintro _ rfl)); refine zye ?_; (try simp only [zyp]); refine Ix.goI_yes rfl rfl fun K hK => ?_; (try simp only [zyp] at hK); go_wp2_with (first | (go_at_call 38; refine (CB.out _).mono ?_; rintro e wa ⟨rfl, hba⟩)); exact hK _ _ hba rfl))
    iterate 2 (· ((repeat (refine zya ?_; rintro _ rfl)); refine zye ?_; (try simp only [zyp]); refine Ix.goI_yes rfl rfl fun K hK => ?_; (try simp only [zyp] at hK); go_wp2_with (first | fail); exact hK _ _ (Below.refl _ _) rfl))
  intro vsf wf HF hdf
  refine zyv 9 0 1 ?_; rintro _ _ rfl; refine zyv 8 1 2 ?_; rintro _ _ rfl; refine zyv 7 2 3 ?_; rintro _ _ rfl; refine zyv 6 3 4 ?_; rintro _ _ rfl; refine zyv 5 4 5 ?_; rintro _ _ rfl; refine zyv 4 5 6 ?_; rintro _ _ rfl; refine zyv 3 6 7 ?_; rintro _ _ rfl; refine zyv 2 7 8 ?_; rintro _ _ rfl; refine zyv 1 8 9 ?_; rintro _ _ rfl; refine zyv 0 9 10 ?_; rintro _ _ rfl
  refine Ix.allV_nil ?_
  (try simp only [Act.put, List.setIfInBounds_toArray, List.set_cons_zero, List.set_cons_succ, List.drop_succ_cons, List.drop_zero])
  refine Ix.nil ?_
  have HF1 := HF
  clear hdf
  go_wp2
  apply Ix.wp_region 8 (fun wi => Hid (Tl w xb xs yb ys wi) ∧ Hid (Ty wi w3.heap.size T TS)) (Ix.vk [(Ix.kis _), (Ix.kis _), (Ix.kwld (fun v w' => ∃ g, v = P g ∧ Io w' g M1) (fun v w1 w2 h hb => by obtain ⟨g, e, hi⟩ := h; exact ⟨g, e, hi.below hb⟩)), (Ix.kis _), (Ix.kis _), (Ix.kwld (fun v w' => ∃ g, v = P g ∧ Io w' g M2) (fun v w1 w2 h hb => by obtain ⟨g, e, hi⟩ := h; exact ⟨g, e, hi.below hb⟩)), (Ix.ksat (fun v => ∃ C : Int, Hid (C = cmpZ M1 M2) ∧ v = .int .i64 C)), (Ix.ksat (fun v => ∃ C : Int, Hid (C = cmpZ M1 M2) ∧ v = .int .i64 C))]) (fun _ => false) (by kernel_rfl) (by kernel_rfl) (by kernel_rfl) (fun _ _ h hb => ⟨h.1.out.below hb, h.2.out.below hb⟩) (Ix.vk_keeps _) (Ix.not_al _) HF1
  case step =>
    refine zyx 7 0 1 [] (fun wi HB => ?_) <| zyx 6 1 2 [] (fun wi HB => ?_) <| zyx 5 2 3 [(0, some 71), (1, some 72)] (fun wi HB => ?_) <| zyx 4 3 4 [] (fun wi HB => ?_) <| zyx 3 4 5 [] (fun wi HB => ?_) <| zyx 2 5 6 [(3, some 74), (4, some 75)] (fun wi HB => ?_) <| zyx 1 6 7 [(2, some 73), (5, some 76)] (fun wi HB => ?_) <| zyx 0 7 8 [(6, some 77)] (fun wi HB => ?_) <| Ix.steps_nil
    (· ((repeat (refine zya ?_; rintro _ rfl)); refine zye ?_; (try simp only [zyp]); refine Ix.goI_yes rfl rfl fun K hK => ?_; (try simp only [zyp] at hK); go_wp2_with (first | fail); exact hK _ _ (Below.refl _ _) rfl))
    (· (obtain ⟨HB, HT⟩ := HB; obtain ⟨t0, t1, t2, t3⟩ := HT.out; (repeat (refine zya ?_; rintro _ rfl)); refine zye ?_; (try simp only [zyp]); refine Ix.goI_yes rfl rfl fun K hK => ?_; (try simp only [zyp] at hK); go_wp2_with (first | fail); exact hK _ _ (Below.refl _ _) rfl))
    (· (obtain ⟨HB, HT⟩ := HB; obtain ⟨t0, t1, t2, t3⟩ := HT.out; (repeat (refine zya ?_; rintro _ rfl)); refine zye ?_; (try simp only [zyp]); refine Ix.goI_yes rfl rfl fun K hK => ?_; (try simp only [zyp] at hK); go_wp2_with (first | (go_at_call 53; refine (MA.out _).mono ?_; rintro e wa ⟨ga, rfl, hga, hba, hia⟩)); exact hK _ _ hba ⟨_, rfl, hia⟩))
    (· ((repeat (refine zya ?_; rintro _ rfl)); refine zye ?_; (try simp only [zyp]); refine Ix.goI_yes rfl rfl fun K hK => ?_; (try simp only [zyp] at hK); go_wp2_with (first | fail); exact hK _ _ (Below.refl _ _) rfl))
    (· (obtain ⟨HB, HT⟩ := HB; obtain ⟨t0, t1, t2, t3⟩ := HT.out; (repeat (refine zya ?_; rintro _ rfl)); refine zye ?_; (try simp only [zyp]); refine Ix.goI_yes rfl rfl fun K hK => ?_; (try simp only [zyp] at hK); go_wp2_with (first | fail); exact hK _ _ (Below.refl _ _) rfl))
    (· (obtain ⟨HB, HT⟩ := HB; obtain ⟨t0, t1, t2, t3⟩ := HT.out; (repeat (refine zya ?_; rintro _ rfl)); refine zye ?_; (try simp only [zyp]); refine Ix.goI_yes rfl rfl fun K hK => ?_; (try simp only [zyp] at hK); go_wp2_with (first | (go_at_call 53; refine (MB.out _).mono ?_; rintro e wa ⟨ga, rfl, hga, hba, hia⟩)); exact hK _ _ hba ⟨_, rfl, hia⟩))
    (· (obtain ⟨HB, HT⟩ := HB; obtain ⟨t0, t1, t2, t3⟩ := HT.out; refine zya ?_; rintro _ ⟨g2, rfl, hg2⟩; refine zya ?_; rintro _ ⟨g5, rfl, hg5⟩; refine zye ?_; (try simp only [zyp]); refine Ix.goI_yes rfl rfl fun K hK => ?_; (try simp only [zyp] at hK); go_wp2_with (first | (go_at_call 52; refine (CC.out _ _ _ hg2 hg5).mono ?_; rintro e wa ⟨C, hca, rfl, m, rfl⟩)); exact hK _ _ (below_drewN (Below.refl _ _) _) ⟨_, hca, rfl⟩))
    (· (obtain ⟨HB, HT⟩ := HB; obtain ⟨t0, t1, t2, t3⟩ := HT.out; refine zya ?_; rintro _ ⟨c6, hc6, rfl⟩; refine zye ?_; (try simp only [zyp]); refine Ix.goI_yes rfl rfl fun K hK => ?_; (try simp only [zyp] at hK); go_wp2_with (first | fail); exact hK _ _ (Below.refl _ _) ⟨_, hc6, rfl⟩))
  intro vsf wf HF hdf
  refine zyv 7 0 1 ?_; rintro _ _ rfl; refine zyv 6 1 2 ?_; rintro _ _ rfl; refine zyv 5 2 3 ?_; rintro _ _ ⟨g2, rfl, hg2⟩; refine zyv 4 3 4 ?_; rintro _ _ rfl; refine zyv 3 4 5 ?_; rintro _ _ rfl; refine zyv 2 5 6 ?_; rintro _ _ ⟨g5, rfl, hg5⟩; refine zyv 1 6 7 ?_; rintro _ _ ⟨c6, hc6, rfl⟩; refine zyv 0 7 8 ?_; rintro _ _ ⟨c7, hc7, rfl⟩
  refine Ix.allV_nil ?_
  obtain ⟨HB, HT⟩ := HF; obtain ⟨t0, t1, t2, t3⟩ := HT.out; have HC7 := hc7; clear hc6 hc7 hg2 hg5 hdf HF1
  (try simp only [Act.put, List.setIfInBounds_toArray, List.set_cons_zero, List.set_cons_succ, List.drop_succ_cons, List.drop_zero])
  refine Ix.nil ?_
  go_wp2_with (first | (go_at_call 77; refine (DO.out _).mono ?_; rintro e w5 ⟨rfl, hb5⟩; have H5 := Lib.hid (HB.out.below hb5); clear hb5))
  go_ret2
  exact ⟨rfl, H5.out.ext⟩
set_option maxHeartbeats 8000000 in
theorem r7binary_do10 (a b xb yb T p q M1 M2 R E : Int) (xs ys TS : Bool)
    (VX : Hid (Gives 32 #[W.ty xb xs] (.bool true))) (VY : Hid (Gives 32 #[W.ty yb ys] (.bool true))) (NP : Hid (Gives 76 #[W.ty xb xs, W.ty yb ys] (W.ty T TS)))
    (CA : Hid (Gives 38 #[.int .u64 a, W.ty xb xs, W.ty T TS] (.int .u64 p))) (CB : Hid (Gives 38 #[.int .u64 b, W.ty yb ys, W.ty T TS] (.int .u64 q)))
    (MA : Hid (∀ w : World, Calls Try.prog 53 #[.int .u64 p, W.ty T TS] w (NewIo w M1))) (MB : Hid (∀ w : World, Calls Try.prog 53 #[.int .u64 q, W.ty T TS] w (NewIo w M2)))
    (DO : Hid (Gives 77 #[.int .u8 47, .int .u64 p, .int .u64 q, .int .i64 T, .bool TS] (.tuple #[.int .u64 R, .int .i64 E]))) (w : World) :
    Calls Try.prog 41 #[.int .i64 10, .int .u64 a, .int .u64 b, W.ty xb xs, W.ty yb ys] w (BiR R E w) := by
  have K0 := Lib.hid (Tl.start w xb yb xs ys)
  have tok := Lib.hid True.intro
  have CC : Hid (∀ (w : World) (g g2 : Nat), Io w g M1 → Io w g2 M2 → Calls Try.prog 52 #[P g, P g2] w fun e w' => ∃ C : Int, Hid (C = cmpZ M1 M2) ∧ e = .returned (.int .i64 C) ∧ ∃ m, w' = w.drewN m) := fun w g g2 a b =>
    (intCmp_ok g g2 M1 M2 w a b).mono fun e w' ⟨h1, h2⟩ => ⟨_, (rfl : cmpZ M1 M2 = cmpZ M1 M2), h1, h2⟩
  go_enter Try.func41, Try.ntmps41
  go_wp2_with (first | (go_at_call_of 32 (Value.agg #[Value.int IntKind.i64 xb, Value.bool xs]); have _t := tok; refine (VX.out _).mono ?_; rintro e w1 ⟨rfl, hb1⟩; have K1 := Lib.hid (K0.out.below hb1); clear hb1 tok _t; obtain ⟨x0, x1, x2, x3⟩ := K1.out.x; obtain ⟨y0, y1, y2, y3⟩ := K1.out.y) | (go_at_call 32; refine (VY.out _).mono ?_; rintro e w2 ⟨rfl, hb2⟩; have K2 := Lib.hid (K1.out.below hb2); clear hb2 x0 x1 x2 x3 y0 y1 y2 y3; obtain ⟨x0, x1, x2, x3⟩ := K2.out.x; obtain ⟨y0, y1, y2, y3⟩ := K2.out.y) | (go_at_call 76; refine (NP.out _).mono ?_; rintro e w3 ⟨rfl, hb3⟩; have K3 := Lib.hid ((K2.out.below hb3).below (Ext.alloc (Below.refl _ _) (.cells #[.int .i64 T, .bool TS] 31))); have P3 := Lib.hid (Ty.new w3 rfl T TS 31); clear hb3 x0 x1 x2 x3 y0 y1 y2 y3))
  generalize (w3.alloc (.cells #[.int .i64 T, .bool TS] 31)) = wx at *
  apply Ix.wp_region 10 (fun wi => Hid (Tl w xb xs yb ys wi) ∧ Hid (Ty wi w3.heap.size T TS)) (Ix.vk [(Ix.kis _), (Ix.kis _), (Ix.kis _), (Ix.kis (.int .u64 p)), (Ix.kis _), (Ix.kis _), (Ix.kis _), (Ix.kis (.int .u64 q)), (Ix.kis _), (Ix.kis _)]) (fun _ => false) (by kernel_rfl) (by kernel_rfl) (by kernel_rfl) (fun _ _ h hb => ⟨h.1.out.below hb, h.2.out.below hb⟩) (Ix.vk_keeps _) (Ix.not_al _) ⟨K3, P3⟩
  case step =>
    refine zyx 9 0 1 [] (fun wi HB => ?_) <| zyx 8 1 2 [] (fun wi HB => ?_) <| zyx 7 2 3 [] (fun wi HB => ?_) <| zyx 6 3 4 [(0, some 63), (1, some 64), (2, some 65)] (fun wi HB => ?_) <| zyx 5 4 5 [] (fun wi HB => ?_) <| zyx 4 5 6 [] (fun wi HB => ?_) <| zyx 3 6 7 [] (fun wi HB => ?_) <| zyx 2 7 8 [(4, some 67), (5, some 68), (6, some 69)] (fun wi HB => ?_) <| zyx 1 8 9 [(3, some 66)] (fun wi HB => ?_) <| zyx 0 9 10 [(7, some 70)] (fun wi HB => ?_) <| Ix.steps_nil
    (· ((repeat (refine zya ?_; rintro _ rfl)); refine zye ?_; (try simp only [zyp]); refine Ix.goI_yes rfl rfl fun K hK => ?_; (try simp only [zyp] at hK); go_wp2_with (first | fail); exact hK _ _ (Below.refl _ _) rfl))
    iterate 2 (· (obtain ⟨HB, HT⟩ := HB; obtain ⟨x0, x1, x2, x3⟩ := HB.out.x; obtain ⟨y0, y1, y2, y3⟩ := HB.out.y; obtain ⟨t0, t1, t2, t3⟩ := HT.out; (repeat (refine zya ?_; rintro _ rfl)); refine zye ?_; (try simp only [zyp]); refine Ix.goI_yes rfl rfl fun K hK => ?_; (try simp only [zyp] at hK); go_wp2_with (first | fail); exact hK _ _ (Below.refl _ _) rfl))
    (· (obtain ⟨HB, HT⟩ := HB; obtain ⟨x0, x1, x2, x3⟩ := HB.out.x; obtain ⟨y0, y1, y2, y3⟩ := HB.out.y; obtain ⟨t0, t1, t2, t3⟩ := HT.out; (repeat (refine zya ?_; rintro _ rfl)); refine zye ?_; (try simp only [zyp]); refine Ix.goI_yes rfl rfl fun K hK => ?_; (try simp only [zyp] at hK); go_wp2_with (first | (go_at_call_of 38 (Value.agg #[Value.int IntKind.i64 xb, Value.bool xs]); refine (CA.out _).mono ?_; rintro e wa ⟨rfl, hba⟩)); exact hK _ _ hba rfl))
    (· ((repeat (refine zya ?_; rintro _ rfl)); refine zye ?_; (try simp only [zyp]); refine Ix.goI_yes rfl rfl fun K hK => ?_; (try simp only [zyp] at hK); go_wp2_with (first | fail); exact hK _ _ (Below.refl _ _) rfl))
    iterate 2 (· (obtain ⟨HB, HT⟩ := HB; obtain ⟨x0, x1, x2, x3⟩ := HB.out.x; obtain ⟨y0, y1, y2, y3⟩ := HB.out.y; obtain ⟨t0, t1, t2, t3⟩ := HT.out; (repeat (refine zya ?_; rintro _ rfl)); refine zye ?_; (try simp only [zyp]); refine Ix.goI_yes rfl rfl fun K hK => ?_; (try simp only [zyp] at hK); go_wp2_with (first | fail); exact hK _ _ (Below.refl _ _) rfl))
    (· (obtain ⟨HB, HT⟩ := HB; obtain ⟨x0, x1, x2, x3⟩ := HB.out.x; obtain ⟨y0, y1, y2, y3⟩ := HB.out.y; obtain ⟨t0, t1, t2, t3⟩ := HT.out; (repeat (refine zya ?_; rintro _ rfl)); refine zye ?_; (try simp only [zyp]); refine Ix.goI_yes rfl rfl fun K hK => ?_; (try simp only [zyp] at hK); go_wp2_with (first | (go_at_call 38; refine (CB.out _).mono ?_; rintro e wa ⟨rfl, hba⟩)); exact hK _ _ hba rfl))
    iterate 2 (· ((repeat (refine zya ?_; rintro _ rfl)); refine zye ?_; (try simp only [zyp]); refine Ix.goI_yes rfl rfl fun K hK => ?_; (try simp only [zyp] at hK); go_wp2_with (first | fail); exact hK _ _ (Below.refl _ _) rfl))
  intro vsf wf HF hdf
  refine zyv 9 0 1 ?_; rintro _ _ rfl; refine zyv 8 1 2 ?_; rintro _ _ rfl; refine zyv 7 2 3 ?_; rintro _ _ rfl; refine zyv 6 3 4 ?_; rintro _ _ rfl; refine zyv 5 4 5 ?_; rintro _ _ rfl; refine zyv 4 5 6 ?_; rintro _ _ rfl; refine zyv 3 6 7 ?_; rintro _ _ rfl; refine zyv 2 7 8 ?_; rintro _ _ rfl; refine zyv 1 8 9 ?_; rintro _ _ rfl; refine zyv 0 9 10 ?_; rintro _ _ rfl
  refine Ix.allV_nil ?_
  (try simp only [Act.put, List.setIfInBounds_toArray, List.set_cons_zero, List.set_cons_succ, List.drop_succ_cons, List.drop_zero])
  refine Ix.nil ?_
  have HF1 := HF
  clear hdf
  go_wp2
  apply Ix.wp_region 8 (fun wi => Hid (Tl w xb xs yb ys wi) ∧ Hid (Ty wi w3.heap.size T TS)) (Ix.vk [(Ix.kis _), (Ix.kis _), (Ix.kwld (fun v w' => ∃ g, v = P g ∧ Io w' g M1) (fun v w1 w2 h hb => by obtain ⟨g, e, hi⟩ := h; exact ⟨g, e, hi.below hb⟩)), (Ix.kis _), (Ix.kis _), (Ix.kwld (fun v w' => ∃ g, v = P g ∧ Io w' g M2) (fun v w1 w2 h hb => by obtain ⟨g, e, hi⟩ := h; exact ⟨g, e, hi.below hb⟩)), (Ix.ksat (fun v => ∃ C : Int, Hid (C = cmpZ M1 M2) ∧ v = .int .i64 C)), (Ix.ksat (fun v => ∃ C : Int, Hid (C = cmpZ M1 M2) ∧ v = .int .i64 C))]) (fun _ => false) (by kernel_rfl) (by kernel_rfl) (by kernel_rfl) (fun _ _ h hb => ⟨h.1.out.below hb, h.2.out.below hb⟩) (Ix.vk_keeps _) (Ix.not_al _) HF1
  case step =>
    refine zyx 7 0 1 [] (fun wi HB => ?_) <| zyx 6 1 2 [] (fun wi HB => ?_) <| zyx 5 2 3 [(0, some 71), (1, some 72)] (fun wi HB => ?_) <| zyx 4 3 4 [] (fun wi HB => ?_) <| zyx 3 4 5 [] (fun wi HB => ?_) <| zyx 2 5 6 [(3, some 74), (4, some 75)] (fun wi HB => ?_) <| zyx 1 6 7 [(2, some 73), (5, some 76)] (fun wi HB => ?_) <| zyx 0 7 8 [(6, some 77)] (fun wi HB => ?_) <| Ix.steps_nil
    (· ((repeat (refine zya ?_; rintro _ rfl)); refine zye ?_; (try simp only [zyp]); refine Ix.goI_yes rfl rfl fun K hK => ?_; (try simp only [zyp] at hK); go_wp2_with (first | fail); exact hK _ _ (Below.refl _ _) rfl))
    (· (obtain ⟨HB, HT⟩ := HB; obtain ⟨t0, t1, t2, t3⟩ := HT.out; (repeat (refine zya ?_; rintro _ rfl)); refine zye ?_; (try simp only [zyp]); refine Ix.goI_yes rfl rfl fun K hK => ?_; (try simp only [zyp] at hK); go_wp2_with (first | fail); exact hK _ _ (Below.refl _ _) rfl))
    (· (obtain ⟨HB, HT⟩ := HB; obtain ⟨t0, t1, t2, t3⟩ := HT.out; (repeat (refine zya ?_; rintro _ rfl)); refine zye ?_; (try simp only [zyp]); refine Ix.goI_yes rfl rfl fun K hK => ?_; (try simp only [zyp] at hK); go_wp2_with (first | (go_at_call 53; refine (MA.out _).mono ?_; rintro e wa ⟨ga, rfl, hga, hba, hia⟩)); exact hK _ _ hba ⟨_, rfl, hia⟩))
    (· ((repeat (refine zya ?_; rintro _ rfl)); refine zye ?_; (try simp only [zyp]); refine Ix.goI_yes rfl rfl fun K hK => ?_; (try simp only [zyp] at hK); go_wp2_with (first | fail); exact hK _ _ (Below.refl _ _) rfl))
    (· (obtain ⟨HB, HT⟩ := HB; obtain ⟨t0, t1, t2, t3⟩ := HT.out; (repeat (refine zya ?_; rintro _ rfl)); refine zye ?_; (try simp only [zyp]); refine Ix.goI_yes rfl rfl fun K hK => ?_; (try simp only [zyp] at hK); go_wp2_with (first | fail); exact hK _ _ (Below.refl _ _) rfl))
    (· (obtain ⟨HB, HT⟩ := HB; obtain ⟨t0, t1, t2, t3⟩ := HT.out; (repeat (refine zya ?_; rintro _ rfl)); refine zye ?_; (try simp only [zyp]); refine Ix.goI_yes rfl rfl fun K hK => ?_; (try simp only [zyp] at hK); go_wp2_with (first | (go_at_call 53; refine (MB.out _).mono ?_; rintro e wa ⟨ga, rfl, hga, hba, hia⟩)); exact hK _ _ hba ⟨_, rfl, hia⟩))
    (· (obtain ⟨HB, HT⟩ := HB; obtain ⟨t0, t1, t2, t3⟩ := HT.out; refine zya ?_; rintro _ ⟨g2, rfl, hg2⟩; refine zya ?_; rintro _ ⟨g5, rfl, hg5⟩; refine zye ?_; (try simp only [zyp]); refine Ix.goI_yes rfl rfl fun K hK => ?_; (try simp only [zyp] at hK); go_wp2_with (first | (go_at_call 52; refine (CC.out _ _ _ hg2 hg5).mono ?_; rintro e wa ⟨C, hca, rfl, m, rfl⟩)); exact hK _ _ (below_drewN (Below.refl _ _) _) ⟨_, hca, rfl⟩))
    (· (obtain ⟨HB, HT⟩ := HB; obtain ⟨t0, t1, t2, t3⟩ := HT.out; refine zya ?_; rintro _ ⟨c6, hc6, rfl⟩; refine zye ?_; (try simp only [zyp]); refine Ix.goI_yes rfl rfl fun K hK => ?_; (try simp only [zyp] at hK); go_wp2_with (first | fail); exact hK _ _ (Below.refl _ _) ⟨_, hc6, rfl⟩))
  intro vsf wf HF hdf
  refine zyv 7 0 1 ?_; rintro _ _ rfl; refine zyv 6 1 2 ?_; rintro _ _ rfl; refine zyv 5 2 3 ?_; rintro _ _ ⟨g2, rfl, hg2⟩; refine zyv 4 3 4 ?_; rintro _ _ rfl; refine zyv 3 4 5 ?_; rintro _ _ rfl; refine zyv 2 5 6 ?_; rintro _ _ ⟨g5, rfl, hg5⟩; refine zyv 1 6 7 ?_; rintro _ _ ⟨c6, hc6, rfl⟩; refine zyv 0 7 8 ?_; rintro _ _ ⟨c7, hc7, rfl⟩
  refine Ix.allV_nil ?_
  obtain ⟨HB, HT⟩ := HF; obtain ⟨t0, t1, t2, t3⟩ := HT.out; have HC7 := hc7; clear hc6 hc7 hg2 hg5 hdf HF1
  (try simp only [Act.put, List.setIfInBounds_toArray, List.set_cons_zero, List.set_cons_succ, List.drop_succ_cons, List.drop_zero])
  refine Ix.nil ?_
  go_wp2_with (first | (go_at_call 77; refine (DO.out _).mono ?_; rintro e w5 ⟨rfl, hb5⟩; have H5 := Lib.hid (HB.out.below hb5); clear hb5))
  go_ret2
  exact ⟨rfl, H5.out.ext⟩
set_option maxHeartbeats 8000000 in
theorem r7binary_do11 (a b xb yb T p q M1 M2 R E : Int) (xs ys TS : Bool)
    (VX : Hid (Gives 32 #[W.ty xb xs] (.bool true))) (VY : Hid (Gives 32 #[W.ty yb ys] (.bool true))) (NP : Hid (Gives 76 #[W.ty xb xs, W.ty yb ys] (W.ty T TS)))
    (CA : Hid (Gives 38 #[.int .u64 a, W.ty xb xs, W.ty T TS] (.int .u64 p))) (CB : Hid (Gives 38 #[.int .u64 b, W.ty yb ys, W.ty T TS] (.int .u64 q)))
    (MA : Hid (∀ w : World, Calls Try.prog 53 #[.int .u64 p, W.ty T TS] w (NewIo w M1))) (MB : Hid (∀ w : World, Calls Try.prog 53 #[.int .u64 q, W.ty T TS] w (NewIo w M2)))
    (DO : Hid (Gives 77 #[.int .u8 37, .int .u64 p, .int .u64 q, .int .i64 T, .bool TS] (.tuple #[.int .u64 R, .int .i64 E]))) (w : World) :
    Calls Try.prog 41 #[.int .i64 11, .int .u64 a, .int .u64 b, W.ty xb xs, W.ty yb ys] w (BiR R E w) := by
  have K0 := Lib.hid (Tl.start w xb yb xs ys)
  have tok := Lib.hid True.intro
  have CC : Hid (∀ (w : World) (g g2 : Nat), Io w g M1 → Io w g2 M2 → Calls Try.prog 52 #[P g, P g2] w fun e w' => ∃ C : Int, Hid (C = cmpZ M1 M2) ∧ e = .returned (.int .i64 C) ∧ ∃ m, w' = w.drewN m) := fun w g g2 a b =>
    (intCmp_ok g g2 M1 M2 w a b).mono fun e w' ⟨h1, h2⟩ => ⟨_, (rfl : cmpZ M1 M2 = cmpZ M1 M2), h1, h2⟩
  go_enter Try.func41, Try.ntmps41
  go_wp2_with (first | (go_at_call_of 32 (Value.agg #[Value.int IntKind.i64 xb, Value.bool xs]); have _t := tok; refine (VX.out _).mono ?_; rintro e w1 ⟨rfl, hb1⟩; have K1 := Lib.hid (K0.out.below hb1); clear hb1 tok _t; obtain ⟨x0, x1, x2, x3⟩ := K1.out.x; obtain ⟨y0, y1, y2, y3⟩ := K1.out.y) | (go_at_call 32; refine (VY.out _).mono ?_; rintro e w2 ⟨rfl, hb2⟩; have K2 := Lib.hid (K1.out.below hb2); clear hb2 x0 x1 x2 x3 y0 y1 y2 y3; obtain ⟨x0, x1, x2, x3⟩ := K2.out.x; obtain ⟨y0, y1, y2, y3⟩ := K2.out.y) | (go_at_call 76; refine (NP.out _).mono ?_; rintro e w3 ⟨rfl, hb3⟩; have K3 := Lib.hid ((K2.out.below hb3).below (Ext.alloc (Below.refl _ _) (.cells #[.int .i64 T, .bool TS] 31))); have P3 := Lib.hid (Ty.new w3 rfl T TS 31); clear hb3 x0 x1 x2 x3 y0 y1 y2 y3))
  generalize (w3.alloc (.cells #[.int .i64 T, .bool TS] 31)) = wx at *
  apply Ix.wp_region 10 (fun wi => Hid (Tl w xb xs yb ys wi) ∧ Hid (Ty wi w3.heap.size T TS)) (Ix.vk [(Ix.kis _), (Ix.kis _), (Ix.kis _), (Ix.kis (.int .u64 p)), (Ix.kis _), (Ix.kis _), (Ix.kis _), (Ix.kis (.int .u64 q)), (Ix.kis _), (Ix.kis _)]) (fun _ => false) (by kernel_rfl) (by kernel_rfl) (by kernel_rfl) (fun _ _ h hb => ⟨h.1.out.below hb, h.2.out.below hb⟩) (Ix.vk_keeps _) (Ix.not_al _) ⟨K3, P3⟩
  case step =>
    refine zyx 9 0 1 [] (fun wi HB => ?_) <| zyx 8 1 2 [] (fun wi HB => ?_) <| zyx 7 2 3 [] (fun wi HB => ?_) <| zyx 6 3 4 [(0, some 63), (1, some 64), (2, some 65)] (fun wi HB => ?_) <| zyx 5 4 5 [] (fun wi HB => ?_) <| zyx 4 5 6 [] (fun wi HB => ?_) <| zyx 3 6 7 [] (fun wi HB => ?_) <| zyx 2 7 8 [(4, some 67), (5, some 68), (6, some 69)] (fun wi HB => ?_) <| zyx 1 8 9 [(3, some 66)] (fun wi HB => ?_) <| zyx 0 9 10 [(7, some 70)] (fun wi HB => ?_) <| Ix.steps_nil
    (· ((repeat (refine zya ?_; rintro _ rfl)); refine zye ?_; (try simp only [zyp]); refine Ix.goI_yes rfl rfl fun K hK => ?_; (try simp only [zyp] at hK); go_wp2_with (first | fail); exact hK _ _ (Below.refl _ _) rfl))
    iterate 2 (· (obtain ⟨HB, HT⟩ := HB; obtain ⟨x0, x1, x2, x3⟩ := HB.out.x; obtain ⟨y0, y1, y2, y3⟩ := HB.out.y; obtain ⟨t0, t1, t2, t3⟩ := HT.out; (repeat (refine zya ?_; rintro _ rfl)); refine zye ?_; (try simp only [zyp]); refine Ix.goI_yes rfl rfl fun K hK => ?_; (try simp only [zyp] at hK); go_wp2_with (first | fail); exact hK _ _ (Below.refl _ _) rfl))
    (· (obtain ⟨HB, HT⟩ := HB; obtain ⟨x0, x1, x2, x3⟩ := HB.out.x; obtain ⟨y0, y1, y2, y3⟩ := HB.out.y; obtain ⟨t0, t1, t2, t3⟩ := HT.out; (repeat (refine zya ?_; rintro _ rfl)); refine zye ?_; (try simp only [zyp]); refine Ix.goI_yes rfl rfl fun K hK => ?_; (try simp only [zyp] at hK); go_wp2_with (first | (go_at_call_of 38 (Value.agg #[Value.int IntKind.i64 xb, Value.bool xs]); refine (CA.out _).mono ?_; rintro e wa ⟨rfl, hba⟩)); exact hK _ _ hba rfl))
    (· ((repeat (refine zya ?_; rintro _ rfl)); refine zye ?_; (try simp only [zyp]); refine Ix.goI_yes rfl rfl fun K hK => ?_; (try simp only [zyp] at hK); go_wp2_with (first | fail); exact hK _ _ (Below.refl _ _) rfl))
    iterate 2 (· (obtain ⟨HB, HT⟩ := HB; obtain ⟨x0, x1, x2, x3⟩ := HB.out.x; obtain ⟨y0, y1, y2, y3⟩ := HB.out.y; obtain ⟨t0, t1, t2, t3⟩ := HT.out; (repeat (refine zya ?_; rintro _ rfl)); refine zye ?_; (try simp only [zyp]); refine Ix.goI_yes rfl rfl fun K hK => ?_; (try simp only [zyp] at hK); go_wp2_with (first | fail); exact hK _ _ (Below.refl _ _) rfl))
    (· (obtain ⟨HB, HT⟩ := HB; obtain ⟨x0, x1, x2, x3⟩ := HB.out.x; obtain ⟨y0, y1, y2, y3⟩ := HB.out.y; obtain ⟨t0, t1, t2, t3⟩ := HT.out; (repeat (refine zya ?_; rintro _ rfl)); refine zye ?_; (try simp only [zyp]); refine Ix.goI_yes rfl rfl fun K hK => ?_; (try simp only [zyp] at hK); go_wp2_with (first | (go_at_call 38; refine (CB.out _).mono ?_; rintro e wa ⟨rfl, hba⟩)); exact hK _ _ hba rfl))
    iterate 2 (· ((repeat (refine zya ?_; rintro _ rfl)); refine zye ?_; (try simp only [zyp]); refine Ix.goI_yes rfl rfl fun K hK => ?_; (try simp only [zyp] at hK); go_wp2_with (first | fail); exact hK _ _ (Below.refl _ _) rfl))
  intro vsf wf HF hdf
  refine zyv 9 0 1 ?_; rintro _ _ rfl; refine zyv 8 1 2 ?_; rintro _ _ rfl; refine zyv 7 2 3 ?_; rintro _ _ rfl; refine zyv 6 3 4 ?_; rintro _ _ rfl; refine zyv 5 4 5 ?_; rintro _ _ rfl; refine zyv 4 5 6 ?_; rintro _ _ rfl; refine zyv 3 6 7 ?_; rintro _ _ rfl; refine zyv 2 7 8 ?_; rintro _ _ rfl; refine zyv 1 8 9 ?_; rintro _ _ rfl; refine zyv 0 9 10 ?_; rintro _ _ rfl
  refine Ix.allV_nil ?_
  (try simp only [Act.put, List.setIfInBounds_toArray, List.set_cons_zero, List.set_cons_succ, List.drop_succ_cons, List.drop_zero])
  refine Ix.nil ?_
  have HF1 := HF
  clear hdf
  go_wp2
  apply Ix.wp_region 8 (fun wi => Hid (Tl w xb xs yb ys wi) ∧ Hid (Ty wi w3.heap.size T TS)) (Ix.vk [(Ix.kis _), (Ix.kis _), (Ix.kwld (fun v w' => ∃ g, v = P g ∧ Io w' g M1) (fun v w1 w2 h hb => by obtain ⟨g, e, hi⟩ := h; exact ⟨g, e, hi.below hb⟩)), (Ix.kis _), (Ix.kis _), (Ix.kwld (fun v w' => ∃ g, v = P g ∧ Io w' g M2) (fun v w1 w2 h hb => by obtain ⟨g, e, hi⟩ := h; exact ⟨g, e, hi.below hb⟩)), (Ix.ksat (fun v => ∃ C : Int, Hid (C = cmpZ M1 M2) ∧ v = .int .i64 C)), (Ix.ksat (fun v => ∃ C : Int, Hid (C = cmpZ M1 M2) ∧ v = .int .i64 C))]) (fun _ => false) (by kernel_rfl) (by kernel_rfl) (by kernel_rfl) (fun _ _ h hb => ⟨h.1.out.below hb, h.2.out.below hb⟩) (Ix.vk_keeps _) (Ix.not_al _) HF1
  case step =>
    refine zyx 7 0 1 [] (fun wi HB => ?_) <| zyx 6 1 2 [] (fun wi HB => ?_) <| zyx 5 2 3 [(0, some 71), (1, some 72)] (fun wi HB => ?_) <| zyx 4 3 4 [] (fun wi HB => ?_) <| zyx 3 4 5 [] (fun wi HB => ?_) <| zyx 2 5 6 [(3, some 74), (4, some 75)] (fun wi HB => ?_) <| zyx 1 6 7 [(2, some 73), (5, some 76)] (fun wi HB => ?_) <| zyx 0 7 8 [(6, some 77)] (fun wi HB => ?_) <| Ix.steps_nil
    (· ((repeat (refine zya ?_; rintro _ rfl)); refine zye ?_; (try simp only [zyp]); refine Ix.goI_yes rfl rfl fun K hK => ?_; (try simp only [zyp] at hK); go_wp2_with (first | fail); exact hK _ _ (Below.refl _ _) rfl))
    (· (obtain ⟨HB, HT⟩ := HB; obtain ⟨t0, t1, t2, t3⟩ := HT.out; (repeat (refine zya ?_; rintro _ rfl)); refine zye ?_; (try simp only [zyp]); refine Ix.goI_yes rfl rfl fun K hK => ?_; (try simp only [zyp] at hK); go_wp2_with (first | fail); exact hK _ _ (Below.refl _ _) rfl))
    (· (obtain ⟨HB, HT⟩ := HB; obtain ⟨t0, t1, t2, t3⟩ := HT.out; (repeat (refine zya ?_; rintro _ rfl)); refine zye ?_; (try simp only [zyp]); refine Ix.goI_yes rfl rfl fun K hK => ?_; (try simp only [zyp] at hK); go_wp2_with (first | (go_at_call 53; refine (MA.out _).mono ?_; rintro e wa ⟨ga, rfl, hga, hba, hia⟩)); exact hK _ _ hba ⟨_, rfl, hia⟩))
    (· ((repeat (refine zya ?_; rintro _ rfl)); refine zye ?_; (try simp only [zyp]); refine Ix.goI_yes rfl rfl fun K hK => ?_; (try simp only [zyp] at hK); go_wp2_with (first | fail); exact hK _ _ (Below.refl _ _) rfl))
    (· (obtain ⟨HB, HT⟩ := HB; obtain ⟨t0, t1, t2, t3⟩ := HT.out; (repeat (refine zya ?_; rintro _ rfl)); refine zye ?_; (try simp only [zyp]); refine Ix.goI_yes rfl rfl fun K hK => ?_; (try simp only [zyp] at hK); go_wp2_with (first | fail); exact hK _ _ (Below.refl _ _) rfl))
    (· (obtain ⟨HB, HT⟩ := HB; obtain ⟨t0, t1, t2, t3⟩ := HT.out; (repeat (refine zya ?_; rintro _ rfl)); refine zye ?_; (try simp only [zyp]); refine Ix.goI_yes rfl rfl fun K hK => ?_; (try simp only [zyp] at hK); go_wp2_with (first | (go_at_call 53; refine (MB.out _).mono ?_; rintro e wa ⟨ga, rfl, hga, hba, hia⟩)); exact hK _ _ hba ⟨_, rfl, hia⟩))
    (· (obtain ⟨HB, HT⟩ := HB; obtain ⟨t0, t1, t2, t3⟩ := HT.out; refine zya ?_; rintro _ ⟨g2, rfl, hg2⟩; refine zya ?_; rintro _ ⟨g5, rfl, hg5⟩; refine zye ?_; (try simp only [zyp]); refine Ix.goI_yes rfl rfl fun K hK => ?_; (try simp only [zyp] at hK); go_wp2_with (first | (go_at_call 52; refine (CC.out _ _ _ hg2 hg5).mono ?_; rintro e wa ⟨C, hca, rfl, m, rfl⟩)); exact hK _ _ (below_drewN (Below.refl _ _) _) ⟨_, hca, rfl⟩))
    (· (obtain ⟨HB, HT⟩ := HB; obtain ⟨t0, t1, t2, t3⟩ := HT.out; refine zya ?_; rintro _ ⟨c6, hc6, rfl⟩; refine zye ?_; (try simp only [zyp]); refine Ix.goI_yes rfl rfl fun K hK => ?_; (try simp only [zyp] at hK); go_wp2_with (first | fail); exact hK _ _ (Below.refl _ _) ⟨_, hc6, rfl⟩))
  intro vsf wf HF hdf
  refine zyv 7 0 1 ?_; rintro _ _ rfl; refine zyv 6 1 2 ?_; rintro _ _ rfl; refine zyv 5 2 3 ?_; rintro _ _ ⟨g2, rfl, hg2⟩; refine zyv 4 3 4 ?_; rintro _ _ rfl; refine zyv 3 4 5 ?_; rintro _ _ rfl; refine zyv 2 5 6 ?_; rintro _ _ ⟨g5, rfl, hg5⟩; refine zyv 1 6 7 ?_; rintro _ _ ⟨c6, hc6, rfl⟩; refine zyv 0 7 8 ?_; rintro _ _ ⟨c7, hc7, rfl⟩
  refine Ix.allV_nil ?_
  obtain ⟨HB, HT⟩ := HF; obtain ⟨t0, t1, t2, t3⟩ := HT.out; have HC7 := hc7; clear hc6 hc7 hg2 hg5 hdf HF1
  (try simp only [Act.put, List.setIfInBounds_toArray, List.set_cons_zero, List.set_cons_succ, List.drop_succ_cons, List.drop_zero])
  refine Ix.nil ?_
  go_wp2_with (first | (go_at_call 77; refine (DO.out _).mono ?_; rintro e w5 ⟨rfl, hb5⟩; have H5 := Lib.hid (HB.out.below hb5); clear hb5))
  go_ret2
  exact ⟨rfl, H5.out.ext⟩
set_option maxHeartbeats 8000000 in
theorem r7binary_do12 (a b xb yb T p q M1 M2 R E : Int) (xs ys TS : Bool)
    (VX : Hid (Gives 32 #[W.ty xb xs] (.bool true))) (VY : Hid (Gives 32 #[W.ty yb ys] (.bool true))) (NP : Hid (Gives 76 #[W.ty xb xs, W.ty yb ys] (W.ty T TS)))
    (CA : Hid (Gives 38 #[.int .u64 a, W.ty xb xs, W.ty T TS] (.int .u64 p))) (CB : Hid (Gives 38 #[.int .u64 b, W.ty yb ys, W.ty T TS] (.int .u64 q)))
    (MA : Hid (∀ w : World, Calls Try.prog 53 #[.int .u64 p, W.ty T TS] w (NewIo w M1))) (MB : Hid (∀ w : World, Calls Try.prog 53 #[.int .u64 q, W.ty T TS] w (NewIo w M2)))
    (DO : Hid (Gives 77 #[.int .u8 43, .int .u64 p, .int .u64 q, .int .i64 T, .bool TS] (.tuple #[.int .u64 R, .int .i64 E]))) (w : World) :
    Calls Try.prog 41 #[.int .i64 12, .int .u64 a, .int .u64 b, W.ty xb xs, W.ty yb ys] w (BiR R E w) := by
  have K0 := Lib.hid (Tl.start w xb yb xs ys)
  have tok := Lib.hid True.intro
  have CC : Hid (∀ (w : World) (g g2 : Nat), Io w g M1 → Io w g2 M2 → Calls Try.prog 52 #[P g, P g2] w fun e w' => ∃ C : Int, Hid (C = cmpZ M1 M2) ∧ e = .returned (.int .i64 C) ∧ ∃ m, w' = w.drewN m) := fun w g g2 a b =>
    (intCmp_ok g g2 M1 M2 w a b).mono fun e w' ⟨h1, h2⟩ => ⟨_, (rfl : cmpZ M1 M2 = cmpZ M1 M2), h1, h2⟩
  go_enter Try.func41, Try.ntmps41
  go_wp2_with (first | (go_at_call_of 32 (Value.agg #[Value.int IntKind.i64 xb, Value.bool xs]); have _t := tok; refine (VX.out _).mono ?_; rintro e w1 ⟨rfl, hb1⟩; have K1 := Lib.hid (K0.out.below hb1); clear hb1 tok _t; obtain ⟨x0, x1, x2, x3⟩ := K1.out.x; obtain ⟨y0, y1, y2, y3⟩ := K1.out.y) | (go_at_call 32; refine (VY.out _).mono ?_; rintro e w2 ⟨rfl, hb2⟩; have K2 := Lib.hid (K1.out.below hb2); clear hb2 x0 x1 x2 x3 y0 y1 y2 y3; obtain ⟨x0, x1, x2, x3⟩ := K2.out.x; obtain ⟨y0, y1, y2, y3⟩ := K2.out.y) | (go_at_call 76; refine (NP.out _).mono ?_; rintro e w3 ⟨rfl, hb3⟩; have K3 := Lib.hid ((K2.out.below hb3).below (Ext.alloc (Below.refl _ _) (.cells #[.int .i64 T, .bool TS] 31))); have P3 := Lib.hid (Ty.new w3 rfl T TS 31); clear hb3 x0 x1 x2 x3 y0 y1 y2 y3))
  generalize (w3.alloc (.cells #[.int .i64 T, .bool TS] 31)) = wx at *
  apply Ix.wp_region 10 (fun wi => Hid (Tl w xb xs yb ys wi) ∧ Hid (Ty wi w3.heap.size T TS)) (Ix.vk [(Ix.kis _), (Ix.kis _), (Ix.kis _), (Ix.kis (.int .u64 p)), (Ix.kis _), (Ix.kis _), (Ix.kis _), (Ix.kis (.int .u64 q)), (Ix.kis _), (Ix.kis _)]) (fun _ => false) (by kernel_rfl) (by kernel_rfl) (by kernel_rfl) (fun _ _ h hb => ⟨h.1.out.below hb, h.2.out.below hb⟩) (Ix.vk_keeps _) (Ix.not_al _) ⟨K3, P3⟩
  case step =>
    refine zyx 9 0 1 [] (fun wi HB => ?_) <| zyx 8 1 2 [] (fun wi HB => ?_) <| zyx 7 2 3 [] (fun wi HB => ?_) <| zyx 6 3 4 [(0, some 63), (1, some 64), (2, some 65)] (fun wi HB => ?_) <| zyx 5 4 5 [] (fun wi HB => ?_) <| zyx 4 5 6 [] (fun wi HB => ?_) <| zyx 3 6 7 [] (fun wi HB => ?_) <| zyx 2 7 8 [(4, some 67), (5, some 68), (6, some 69)] (fun wi HB => ?_) <| zyx 1 8 9 [(3, some 66)] (fun wi HB => ?_) <| zyx 0 9 10 [(7, some 70)] (fun wi HB => ?_) <| Ix.steps_nil
    (· ((repeat (refine zya ?_; rintro _ rfl)); refine zye ?_; (try simp only [zyp]); refine Ix.goI_yes rfl rfl fun K hK => ?_; (try simp only [zyp] at hK); go_wp2_with (first | fail); exact hK _ _ (Below.refl _ _) rfl))
    iterate 2 (· (obtain ⟨HB, HT⟩ := HB; obtain ⟨x0, x1, x2, x3⟩ := HB.out.x; obtain ⟨y0, y1, y2, y3⟩ := HB.out.y; obtain ⟨t0, t1, t2, t3⟩ := HT.out; (repeat (refine zya ?_; rintro _ rfl)); refine zye ?_; (try simp only [zyp]); refine Ix.goI_yes rfl rfl fun K hK => ?_; (try simp only [zyp] at hK); go_wp2_with (first | fail); exact hK _ _ (Below.refl _ _) rfl))
    (· (obtain ⟨HB, HT⟩ := HB; obtain ⟨x0, x1, x2, x3⟩ := HB.out.x; obtain ⟨y0, y1, y2, y3⟩ := HB.out.y; obtain ⟨t0, t1, t2, t3⟩ := HT.out; (repeat (refine zya ?_; rintro _ rfl)); refine zye ?_; (try simp only [zyp]); refine Ix.goI_yes rfl rfl fun K hK => ?_; (try simp only [zyp] at hK); go_wp2_with (first | (go_at_call_of 38 (Value.agg #[Value.int IntKind.i64 xb, Value.bool xs]); refine (CA.out _).mono ?_; rintro e wa ⟨rfl, hba⟩)); exact hK _ _ hba rfl))
    (· ((repeat (refine zya ?_; rintro _ rfl)); refine zye ?_; (try simp only [zyp]); refine Ix.goI_yes rfl rfl fun K hK => ?_; (try simp only [zyp] at hK); go_wp2_with (first | fail); exact hK _ _ (Below.refl _ _) rfl))
    iterate 2 (· (obtain ⟨HB, HT⟩ := HB; obtain ⟨x0, x1, x2, x3⟩ := HB.out.x; obtain ⟨y0, y1, y2, y3⟩ := HB.out.y; obtain ⟨t0, t1, t2, t3⟩ := HT.out; (repeat (refine zya ?_; rintro _ rfl)); refine zye ?_; (try simp only [zyp]); refine Ix.goI_yes rfl rfl fun K hK => ?_; (try simp only [zyp] at hK); go_wp2_with (first | fail); exact hK _ _ (Below.refl _ _) rfl))
    (· (obtain ⟨HB, HT⟩ := HB; obtain ⟨x0, x1, x2, x3⟩ := HB.out.x; obtain ⟨y0, y1, y2, y3⟩ := HB.out.y; obtain ⟨t0, t1, t2, t3⟩ := HT.out; (repeat (refine zya ?_; rintro _ rfl)); refine zye ?_; (try simp only [zyp]); refine Ix.goI_yes rfl rfl fun K hK => ?_; (try simp only [zyp] at hK); go_wp2_with (first | (go_at_call 38; refine (CB.out _).mono ?_; rintro e wa ⟨rfl, hba⟩)); exact hK _ _ hba rfl))
    iterate 2 (· ((repeat (refine zya ?_; rintro _ rfl)); refine zye ?_; (try simp only [zyp]); refine Ix.goI_yes rfl rfl fun K hK => ?_; (try simp only [zyp] at hK); go_wp2_with (first | fail); exact hK _ _ (Below.refl _ _) rfl))
  intro vsf wf HF hdf
  refine zyv 9 0 1 ?_; rintro _ _ rfl; refine zyv 8 1 2 ?_; rintro _ _ rfl; refine zyv 7 2 3 ?_; rintro _ _ rfl; refine zyv 6 3 4 ?_; rintro _ _ rfl; refine zyv 5 4 5 ?_; rintro _ _ rfl; refine zyv 4 5 6 ?_; rintro _ _ rfl; refine zyv 3 6 7 ?_; rintro _ _ rfl; refine zyv 2 7 8 ?_; rintro _ _ rfl; refine zyv 1 8 9 ?_; rintro _ _ rfl; refine zyv 0 9 10 ?_; rintro _ _ rfl
  refine Ix.allV_nil ?_
  (try simp only [Act.put, List.setIfInBounds_toArray, List.set_cons_zero, List.set_cons_succ, List.drop_succ_cons, List.drop_zero])
  refine Ix.nil ?_
  have HF1 := HF
  clear hdf
  go_wp2
  apply Ix.wp_region 8 (fun wi => Hid (Tl w xb xs yb ys wi) ∧ Hid (Ty wi w3.heap.size T TS)) (Ix.vk [(Ix.kis _), (Ix.kis _), (Ix.kwld (fun v w' => ∃ g, v = P g ∧ Io w' g M1) (fun v w1 w2 h hb => by obtain ⟨g, e, hi⟩ := h; exact ⟨g, e, hi.below hb⟩)), (Ix.kis _), (Ix.kis _), (Ix.kwld (fun v w' => ∃ g, v = P g ∧ Io w' g M2) (fun v w1 w2 h hb => by obtain ⟨g, e, hi⟩ := h; exact ⟨g, e, hi.below hb⟩)), (Ix.ksat (fun v => ∃ C : Int, Hid (C = cmpZ M1 M2) ∧ v = .int .i64 C)), (Ix.ksat (fun v => ∃ C : Int, Hid (C = cmpZ M1 M2) ∧ v = .int .i64 C))]) (fun _ => false) (by kernel_rfl) (by kernel_rfl) (by kernel_rfl) (fun _ _ h hb => ⟨h.1.out.below hb, h.2.out.below hb⟩) (Ix.vk_keeps _) (Ix.not_al _) HF1
  case step =>
    refine zyx 7 0 1 [] (fun wi HB => ?_) <| zyx 6 1 2 [] (fun wi HB => ?_) <| zyx 5 2 3 [(0, some 71), (1, some 72)] (fun wi HB => ?_) <| zyx 4 3 4 [] (fun wi HB => ?_) <| zyx 3 4 5 [] (fun wi HB => ?_) <| zyx 2 5 6 [(3, some 74), (4, some 75)] (fun wi HB => ?_) <| zyx 1 6 7 [(2, some 73), (5, some 76)] (fun wi HB => ?_) <| zyx 0 7 8 [(6, some 77)] (fun wi HB => ?_) <| Ix.steps_nil
    (· ((repeat (refine zya ?_; rintro _ rfl)); refine zye ?_; (try simp only [zyp]); refine Ix.goI_yes rfl rfl fun K hK => ?_; (try simp only [zyp] at hK); go_wp2_with (first | fail); exact hK _ _ (Below.refl _ _) rfl))
    (· (obtain ⟨HB, HT⟩ := HB; obtain ⟨t0, t1, t2, t3⟩ := HT.out; (repeat (refine zya ?_; rintro _ rfl)); refine zye ?_; (try simp only [zyp]); refine Ix.goI_yes rfl rfl fun K hK => ?_; (try simp only [zyp] at hK); go_wp2_with (first | fail); exact hK _ _ (Below.refl _ _) rfl))
    (· (obtain ⟨HB, HT⟩ := HB; obtain ⟨t0, t1, t2, t3⟩ := HT.out; (repeat (refine zya ?_; rintro _ rfl)); refine zye ?_; (try simp only [zyp]); refine Ix.goI_yes rfl rfl fun K hK => ?_; (try simp only [zyp] at hK); go_wp2_with (first | (go_at_call 53; refine (MA.out _).mono ?_; rintro e wa ⟨ga, rfl, hga, hba, hia⟩)); exact hK _ _ hba ⟨_, rfl, hia⟩))
    (· ((repeat (refine zya ?_; rintro _ rfl)); refine zye ?_; (try simp only [zyp]); refine Ix.goI_yes rfl rfl fun K hK => ?_; (try simp only [zyp] at hK); go_wp2_with (first | fail); exact hK _ _ (Below.refl _ _) rfl))
    (· (obtain ⟨HB, HT⟩ := HB; obtain ⟨t0, t1, t2, t3⟩ := HT.out; (repeat (refine zya ?_; rintro _ rfl)); refine zye ?_; (try simp only [zyp]); refine Ix.goI_yes rfl rfl fun K hK => ?_; (try simp only [zyp] at hK); go_wp2_with (first | fail); exact hK _ _ (Below.refl _ _) rfl))
    (· (obtain ⟨HB, HT⟩ := HB; obtain ⟨t0, t1, t2, t3⟩ := HT.out; (repeat (refine zya ?_; rintro _ rfl)); refine zye ?_; (try simp only [zyp]); refine Ix.goI_yes rfl rfl fun K hK => ?_; (try simp only [zyp] at hK); go_wp2_with (first | (go_at_call 53; refine (MB.out _).mono ?_; rintro e wa ⟨ga, rfl, hga, hba, hia⟩)); exact hK _ _ hba ⟨_, rfl, hia⟩))
    (· (obtain ⟨HB, HT⟩ := HB; obtain ⟨t0, t1, t2, t3⟩ := HT.out; refine zya ?_; rintro _ ⟨g2, rfl, hg2⟩; refine zya ?_; rintro _ ⟨g5, rfl, hg5⟩; refine zye ?_; (try simp only [zyp]); refine Ix.goI_yes rfl rfl fun K hK => ?_; (try simp only [zyp] at hK); go_wp2_with (first | (go_at_call 52; refine (CC.out _ _ _ hg2 hg5).mono ?_; rintro e wa ⟨C, hca, rfl, m, rfl⟩)); exact hK _ _ (below_drewN (Below.refl _ _) _) ⟨_, hca, rfl⟩))
    (· (obtain ⟨HB, HT⟩ := HB; obtain ⟨t0, t1, t2, t3⟩ := HT.out; refine zya ?_; rintro _ ⟨c6, hc6, rfl⟩; refine zye ?_; (try simp only [zyp]); refine Ix.goI_yes rfl rfl fun K hK => ?_; (try simp only [zyp] at hK); go_wp2_with (first | fail); exact hK _ _ (Below.refl _ _) ⟨_, hc6, rfl⟩))
  intro vsf wf HF hdf
  refine zyv 7 0 1 ?_; rintro _ _ rfl; refine zyv 6 1 2 ?_; rintro _ _ rfl; refine zyv 5 2 3 ?_; rintro _ _ ⟨g2, rfl, hg2⟩; refine zyv 4 3 4 ?_; rintro _ _ rfl; refine zyv 3 4 5 ?_; rintro _ _ rfl; refine zyv 2 5 6 ?_; rintro _ _ ⟨g5, rfl, hg5⟩; refine zyv 1 6 7 ?_; rintro _ _ ⟨c6, hc6, rfl⟩; refine zyv 0 7 8 ?_; rintro _ _ ⟨c7, hc7, rfl⟩
  refine Ix.allV_nil ?_
  obtain ⟨HB, HT⟩ := HF; obtain ⟨t0, t1, t2, t3⟩ := HT.out; have HC7 := hc7; clear hc6 hc7 hg2 hg5 hdf HF1
  (try simp only [Act.put, List.setIfInBounds_toArray, List.set_cons_zero, List.set_cons_succ, List.drop_succ_cons, List.drop_zero])
  refine Ix.nil ?_
  go_wp2_with (first | (go_at_call 77; refine (DO.out _).mono ?_; rintro e w5 ⟨rfl, hb5⟩; have H5 := Lib.hid (HB.out.below hb5); clear hb5))
  go_ret2
  exact ⟨rfl, H5.out.ext⟩
set_option maxHeartbeats 8000000 in
theorem r7binary_do13 (a b xb yb T p q M1 M2 R E : Int) (xs ys TS : Bool)
    (VX : Hid (Gives 32 #[W.ty xb xs] (.bool true))) (VY : Hid (Gives 32 #[W.ty yb ys] (.bool true))) (NP : Hid (Gives 76 #[W.ty xb xs, W.ty yb ys] (W.ty T TS)))
    (CA : Hid (Gives 38 #[.int .u64 a, W.ty xb xs, W.ty T TS] (.int .u64 p))) (CB : Hid (Gives 38 #[.int .u64 b, W.ty yb ys, W.ty T TS] (.int .u64 q)))
    (MA : Hid (∀ w : World, Calls Try.prog 53 #[.int .u64 p, W.ty T TS] w (NewIo w M1))) (MB : Hid (∀ w : World, Calls Try.prog 53 #[.int .u64 q, W.ty T TS] w (NewIo w M2)))
    (DO : Hid (Gives 77 #[.int .u8 45, .int .u64 p, .int .u64 q, .int .i64 T, .bool TS] (.tuple #[.int .u64 R, .int .i64 E]))) (w : World) :
    Calls Try.prog 41 #[.int .i64 13, .int .u64 a, .int .u64 b, W.ty xb xs, W.ty yb ys] w (BiR R E w) := by
  have K0 := Lib.hid (Tl.start w xb yb xs ys)
  have tok := Lib.hid True.intro
  have CC : Hid (∀ (w : World) (g g2 : Nat), Io w g M1 → Io w g2 M2 → Calls Try.prog 52 #[P g, P g2] w fun e w' => ∃ C : Int, Hid (C = cmpZ M1 M2) ∧ e = .returned (.int .i64 C) ∧ ∃ m, w' = w.drewN m) := fun w g g2 a b =>
    (intCmp_ok g g2 M1 M2 w a b).mono fun e w' ⟨h1, h2⟩ => ⟨_, (rfl : cmpZ M1 M2 = cmpZ M1 M2), h1, h2⟩
  go_enter Try.func41, Try.ntmps41
  go_wp2_with (first | (go_at_call_of 32 (Value.agg #[Value.int IntKind.i64 xb, Value.bool xs]); have _t := tok; refine (VX.out _).mono ?_; rintro e w1 ⟨rfl, hb1⟩; have K1 := Lib.hid (K0.out.below hb1); clear hb1 tok _t; obtain ⟨x0, x1, x2, x3⟩ := K1.out.x; obtain ⟨y0, y1, y2, y3⟩ := K1.out.y) | (go_at_call 32; refine (VY.out _).mono ?_; rintro e w2 ⟨rfl, hb2⟩; have K2 := Lib.hid (K1.out.below hb2); clear hb2 x0 x1 x2 x3 y0 y1 y2 y3; obtain ⟨x0, x1, x2, x3⟩ := K2.out.x; obtain ⟨y0, y1, y2, y3⟩ := K2.out.y) | (go_at_call 76; refine (NP.out _).mono ?_; rintro e w3 ⟨rfl, hb3⟩; have K3 := Lib.hid ((K2.out.below hb3).below (Ext.alloc (Below.refl _ _) (.cells #[.int .i64 T, .bool TS] 31))); have P3 := Lib.hid (Ty.new w3 rfl T TS 31); clear hb3 x0 x1 x2 x3 y0 y1 y2 y3))
  generalize (w3.alloc (.cells #[.int .i64 T, .bool TS] 31)) = wx at *
  apply Ix.wp_region 10 (fun wi => Hid (Tl w xb xs yb ys wi) ∧ Hid (Ty wi w3.heap.size T TS)) (Ix.vk [(Ix.kis _), (Ix.kis _), (Ix.kis _), (Ix.kis (.int .u64 p)), (Ix.kis _), (Ix.kis _), (Ix.kis _), (Ix.kis (.int .u64 q)), (Ix.kis _), (Ix.kis _)]) (fun _ => false) (by kernel_rfl) (by kernel_rfl) (by kernel_rfl) (fun _ _ h hb => ⟨h.1.out.below hb, h.2.out.below hb⟩) (Ix.vk_keeps _) (Ix.not_al _) ⟨K3, P3⟩
  case step =>
    refine zyx 9 0 1 [] (fun wi HB => ?_) <| zyx 8 1 2 [] (fun wi HB => ?_) <| zyx 7 2 3 [] (fun wi HB => ?_) <| zyx 6 3 4 [(0, some 63), (1, some 64), (2, some 65)] (fun wi HB => ?_) <| zyx 5 4 5 [] (fun wi HB => ?_) <| zyx 4 5 6 [] (fun wi HB => ?_) <| zyx 3 6 7 [] (fun wi HB => ?_) <| zyx 2 7 8 [(4, some 67), (5, some 68), (6, some 69)] (fun wi HB => ?_) <| zyx 1 8 9 [(3, some 66)] (fun wi HB => ?_) <| zyx 0 9 10 [(7, some 70)] (fun wi HB => ?_) <| Ix.steps_nil
    (· ((repeat (refine zya ?_; rintro _ rfl)); refine zye ?_; (try simp only [zyp]); refine Ix.goI_yes rfl rfl fun K hK => ?_; (try simp only [zyp] at hK); go_wp2_with (first | fail); exact hK _ _ (Below.refl _ _) rfl))
    iterate 2 (· (obtain ⟨HB, HT⟩ := HB; obtain ⟨x0, x1, x2, x3⟩ := HB.out.x; obtain ⟨y0, y1, y2, y3⟩ := HB.out.y; obtain ⟨t0, t1, t2, t3⟩ := HT.out; (repeat (refine zya ?_; rintro _ rfl)); refine zye ?_; (try simp only [zyp]); refine Ix.goI_yes rfl rfl fun K hK => ?_; (try simp only [zyp] at hK); go_wp2_with (first | fail); exact hK _ _ (Below.refl _ _) rfl))
    (· (obtain ⟨HB, HT⟩ := HB; obtain ⟨x0, x1, x2, x3⟩ := HB.out.x; obtain ⟨y0, y1, y2, y3⟩ := HB.out.y; obtain ⟨t0, t1, t2, t3⟩ := HT.out; (repeat (refine zya ?_; rintro _ rfl)); refine zye ?_; (try simp only [zyp]); refine Ix.goI_yes rfl rfl fun K hK => ?_; (try simp only [zyp] at hK); go_wp2_with (first | (go_at_call_of 38 (Value.agg #[Value.int IntKind.i64 xb, Value.bool xs]); refine (CA.out _).mono ?_; rintro e wa ⟨rfl, hba⟩)); exact hK _ _ hba rfl))
    (· ((repeat (refine zya ?_; rintro _ rfl)); refine zye ?_; (try simp only [zyp]); refine Ix.goI_yes rfl rfl fun K hK => ?_; (try simp only [zyp] at hK); go_wp2_with (first | fail); exact hK _ _ (Below.refl _ _) rfl))
    iterate 2 (· (obtain ⟨HB, HT⟩ := HB; obtain ⟨x0, x1, x2, x3⟩ := HB.out.x; obtain ⟨y0, y1, y2, y3⟩ := HB.out.y; obtain ⟨t0, t1, t2, t3⟩ := HT.out; (repeat (refine zya ?_; rintro _ rfl)); refine zye ?_; (try simp only [zyp]); refine Ix.goI_yes rfl rfl fun K hK => ?_; (try simp only [zyp] at hK); go_wp2_with (first | fail); exact hK _ _ (Below.refl _ _) rfl))
    (· (obtain ⟨HB, HT⟩ := HB; obtain ⟨x0, x1, x2, x3⟩ := HB.out.x; obtain ⟨y0, y1, y2, y3⟩ := HB.out.y; obtain ⟨t0, t1, t2, t3⟩ := HT.out; (repeat (refine zya ?_; rintro _ rfl)); refine zye ?_; (try simp only [zyp]); refine Ix.goI_yes rfl rfl fun K hK => ?_; (try simp only [zyp] at hK); go_wp2_with (first | (go_at_call 38; refine (CB.out _).mono ?_; rintro e wa ⟨rfl, hba⟩)); exact hK _ _ hba rfl))
    iterate 2 (· ((repeat (refine zya ?_; rintro _ rfl)); refine zye ?_; (try simp only [zyp]); refine Ix.goI_yes rfl rfl fun K hK => ?_; (try simp only [zyp] at hK); go_wp2_with (first | fail); exact hK _ _ (Below.refl _ _) rfl))
  intro vsf wf HF hdf
  refine zyv 9 0 1 ?_; rintro _ _ rfl; refine zyv 8 1 2 ?_; rintro _ _ rfl; refine zyv 7 2 3 ?_; rintro _ _ rfl; refine zyv 6 3 4 ?_; rintro _ _ rfl; refine zyv 5 4 5 ?_; rintro _ _ rfl; refine zyv 4 5 6 ?_; rintro _ _ rfl; refine zyv 3 6 7 ?_; rintro _ _ rfl; refine zyv 2 7 8 ?_; rintro _ _ rfl; refine zyv 1 8 9 ?_; rintro _ _ rfl; refine zyv 0 9 10 ?_; rintro _ _ rfl
  refine Ix.allV_nil ?_
  (try simp only [Act.put, List.setIfInBounds_toArray, List.set_cons_zero, List.set_cons_succ, List.drop_succ_cons, List.drop_zero])
  refine Ix.nil ?_
  have HF1 := HF
  clear hdf
  go_wp2
  apply Ix.wp_region 8 (fun wi => Hid (Tl w xb xs yb ys wi) ∧ Hid (Ty wi w3.heap.size T TS)) (Ix.vk [(Ix.kis _), (Ix.kis _), (Ix.kwld (fun v w' => ∃ g, v = P g ∧ Io w' g M1) (fun v w1 w2 h hb => by obtain ⟨g, e, hi⟩ := h; exact ⟨g, e, hi.below hb⟩)), (Ix.kis _), (Ix.kis _), (Ix.kwld (fun v w' => ∃ g, v = P g ∧ Io w' g M2) (fun v w1 w2 h hb => by obtain ⟨g, e, hi⟩ := h; exact ⟨g, e, hi.below hb⟩)), (Ix.ksat (fun v => ∃ C : Int, Hid (C = cmpZ M1 M2) ∧ v = .int .i64 C)), (Ix.ksat (fun v => ∃ C : Int, Hid (C = cmpZ M1 M2) ∧ v = .int .i64 C))]) (fun _ => false) (by kernel_rfl) (by kernel_rfl) (by kernel_rfl) (fun _ _ h hb => ⟨h.1.out.below hb, h.2.out.below hb⟩) (Ix.vk_keeps _) (Ix.not_al _) HF1
  case step =>
    refine zyx 7 0 1 [] (fun wi HB => ?_) <| zyx 6 1 2 [] (fun wi HB => ?_) <| zyx 5 2 3 [(0, some 71), (1, some 72)] (fun wi HB => ?_) <| zyx 4 3 4 [] (fun wi HB => ?_) <| zyx 3 4 5 [] (fun wi HB => ?_) <| zyx 2 5 6 [(3, some 74), (4, some 75)] (fun wi HB => ?_) <| zyx 1 6 7 [(2, some 73), (5, some 76)] (fun wi HB => ?_) <| zyx 0 7 8 [(6, some 77)] (fun wi HB => ?_) <| Ix.steps_nil
    (· ((repeat (refine zya ?_; rintro _ rfl)); refine zye ?_; (try simp only [zyp]); refine Ix.goI_yes rfl rfl fun K hK => ?_; (try simp only [zyp] at hK); go_wp2_with (first | fail); exact hK _ _ (Below.refl _ _) rfl))
    (· (obtain ⟨HB, HT⟩ := HB; obtain ⟨t0, t1, t2, t3⟩ := HT.out; (repeat (refine zya ?_; rintro _ rfl)); refine zye ?_; (try simp only [zyp]); refine Ix.goI_yes rfl rfl fun K hK => ?_; (try simp only [zyp] at hK); go_wp2_with (first | fail); exact hK _ _ (Below.refl _ _) rfl))
    (· (obtain ⟨HB, HT⟩ := HB; obtain ⟨t0, t1, t2, t3⟩ := HT.out; (repeat (refine zya ?_; rintro _ rfl)); refine zye ?_; (try simp only [zyp]); refine Ix.goI_yes rfl rfl fun K hK => ?_; (try simp only [zyp] at hK); go_wp2_with (first | (go_at_call 53; refine (MA.out _).mono ?_; rintro e wa ⟨ga, rfl, hga, hba, hia⟩)); exact hK _ _ hba ⟨_, rfl, hia⟩))
    (· ((repeat (refine zya ?_; rintro _ rfl)); refine zye ?_; (try simp only [zyp]); refine Ix.goI_yes rfl rfl fun K hK => ?_; (try simp only [zyp] at hK); go_wp2_with (first | fail); exact hK _ _ (Below.refl _ _) rfl))
    (· (obtain ⟨HB, HT⟩ := HB; obtain ⟨t0, t1, t2, t3⟩ := HT.out; (repeat (refine zya ?_; rintro _ rfl)); refine zye ?_; (try simp only [zyp]); refine Ix.goI_yes rfl rfl fun K hK => ?_; (try simp only [zyp] at hK); go_wp2_with (first | fail); exact hK _ _ (Below.refl _ _) rfl))
    (· (obtain ⟨HB, HT⟩ := HB; obtain ⟨t0, t1, t2, t3⟩ := HT.out; (repeat (refine zya ?_; rintro _ rfl)); refine zye ?_; (try simp only [zyp]); refine Ix.goI_yes rfl rfl fun K hK => ?_; (try simp only [zyp] at hK); go_wp2_with (first | (go_at_call 53; refine (MB.out _).mono ?_; rintro e wa ⟨ga, rfl, hga, hba, hia⟩)); exact hK _ _ hba ⟨_, rfl, hia⟩))
    (· (obtain ⟨HB, HT⟩ := HB; obtain ⟨t0, t1, t2, t3⟩ := HT.out; refine zya ?_; rintro _ ⟨g2, rfl, hg2⟩; refine zya ?_; rintro _ ⟨g5, rfl, hg5⟩; refine zye ?_; (try simp only [zyp]); refine Ix.goI_yes rfl rfl fun K hK => ?_; (try simp only [zyp] at hK); go_wp2_with (first | (go_at_call 52; refine (CC.out _ _ _ hg2 hg5).mono ?_; rintro e wa ⟨C, hca, rfl, m, rfl⟩)); exact hK _ _ (below_drewN (Below.refl _ _) _) ⟨_, hca, rfl⟩))
    (· (obtain ⟨HB, HT⟩ := HB; obtain ⟨t0, t1, t2, t3⟩ := HT.out; refine zya ?_; rintro _ ⟨c6, hc6, rfl⟩; refine zye ?_; (try simp only [zyp]); refine Ix.goI_yes rfl rfl fun K hK => ?_; (try simp only [zyp] at hK); go_wp2_with (first | fail); exact hK _ _ (Below.refl _ _) ⟨_, hc6, rfl⟩))
  intro vsf wf HF hdf
  refine zyv 7 0 1 ?_; rintro _ _ rfl; refine zyv 6 1 2 ?_; rintro _ _ rfl; refine zyv 5 2 3 ?_; rintro _ _ ⟨g2, rfl, hg2⟩; refine zyv 4 3 4 ?_; rintro _ _ rfl; refine zyv 3 4 5 ?_; rintro _ _ rfl; refine zyv 2 5 6 ?_; rintro _ _ ⟨g5, rfl, hg5⟩; refine zyv 1 6 7 ?_; rintro _ _ ⟨c6, hc6, rfl⟩; refine zyv 0 7 8 ?_; rintro _ _ ⟨c7, hc7, rfl⟩
  refine Ix.allV_nil ?_
  obtain ⟨HB, HT⟩ := HF; obtain ⟨t0, t1, t2, t3⟩ := HT.out; have HC7 := hc7; clear hc6 hc7 hg2 hg5 hdf HF1
  (try simp only [Act.put, List.setIfInBounds_toArray, List.set_cons_zero, List.set_cons_succ, List.drop_succ_cons, List.drop_zero])
  refine Ix.nil ?_
  go_wp2_with (first | (go_at_call 77; refine (DO.out _).mono ?_; rintro e w5 ⟨rfl, hb5⟩; have H5 := Lib.hid (HB.out.below hb5); clear hb5))
  go_ret2
  exact ⟨rfl, H5.out.ext⟩
set_option maxHeartbeats 8000000 in
theorem r7binary_cmp16 (a b xb yb T p q M1 M2 : Int) (xs ys TS z : Bool) (hz : (decide (cmpZ M1 M2 < 0)) = z)
    (VX : Hid (Gives 32 #[W.ty xb xs] (.bool true))) (VY : Hid (Gives 32 #[W.ty yb ys] (.bool true))) (NP : Hid (Gives 76 #[W.ty xb xs, W.ty yb ys] (W.ty T TS)))
    (CA : Hid (Gives 38 #[.int .u64 a, W.ty xb xs, W.ty T TS] (.int .u64 p))) (CB : Hid (Gives 38 #[.int .u64 b, W.ty yb ys, W.ty T TS] (.int .u64 q)))
    (MA : Hid (∀ w : World, Calls Try.prog 53 #[.int .u64 p, W.ty T TS] w (NewIo w M1))) (MB : Hid (∀ w : World, Calls Try.prog 53 #[.int .u64 q, W.ty T TS] w (NewIo w M2)))
    (w : World) :
    Calls Try.prog 41 #[.int .i64 16, .int .u64 a, .int .u64 b, W.ty xb xs, W.ty yb ys] w (BiR (if z then 1 else 0) 0 w) := by
  have HZ := Lib.hid hz
  obtain ⟨R, hR⟩ : ∃ R : Int, R = if z then 1 else 0 := ⟨_, rfl⟩
  rw [← hR]
  have HR := Lib.hid hR
  clear hz hR
  have K0 := Lib.hid (Tl.start w xb yb xs ys)
  have tok := Lib.hid True.intro
  have CC : Hid (∀ (w : World) (g g2 : Nat), Io w g M1 → Io w g2 M2 → Calls Try.prog 52 #[P g, P g2] w fun e w' => ∃ C : Int, Hid (C = cmpZ M1 M2) ∧ e = .returned (.int .i64 C) ∧ ∃ m, w' = w.drewN m) := fun w g g2 a b =>
    (intCmp_ok g g2 M1 M2 w a b).mono fun e w' ⟨h1, h2⟩ => ⟨_, (rfl : cmpZ M1 M2 = cmpZ M1 M2), h1, h2⟩
  go_enter Try.func41, Try.ntmps41
  go_wp2_with (first | (go_at_call_of 32 (Value.agg #[Value.int IntKind.i64 xb, Value.bool xs]); have _t := tok; refine (VX.out _).mono ?_; rintro e w1 ⟨rfl, hb1⟩; have K1 := Lib.hid (K0.out.below hb1); clear hb1 tok _t; obtain ⟨x0, x1, x2, x3⟩ := K1.out.x; obtain ⟨y0, y1, y2, y3⟩ := K1.out.y) | (go_at_call 32; refine (VY.out _).mono ?_; rintro e w2 ⟨rfl, hb2⟩; have K2 := Lib.hid (K1.out.below hb2); clear hb2 x0 x1 x2 x3 y0 y1 y2 y3; obtain ⟨x0, x1, x2, x3⟩ := K2.out.x; obtain ⟨y0, y1, y2, y3⟩ := K2.out.y) | (go_at_call 76; refine (NP.out _).mono ?_; rintro e w3 ⟨rfl, hb3⟩; have K3 := Lib.hid ((K2.out.below hb3).below (Ext.alloc (Below.refl _ _) (.cells #[.int .i64 T, .bool TS] 31))); have P3 := Lib.hid (Ty.new w3 rfl T TS 31); clear hb3 x0 x1 x2 x3 y0 y1 y2 y3))
  generalize (w3.alloc (.cells #[.int .i64 T, .bool TS] 31)) = wx at *
  apply Ix.wp_region 10 (fun wi => Hid (Tl w xb xs yb ys wi) ∧ Hid (Ty wi w3.heap.size T TS)) (Ix.vk [(Ix.kis _), (Ix.kis _), (Ix.kis _), (Ix.kis (.int .u64 p)), (Ix.kis _), (Ix.kis _), (Ix.kis _), (Ix.kis (.int .u64 q)), (Ix.kis _), (Ix.kis _)]) (fun _ => false) (by kernel_rfl) (by kernel_rfl) (by kernel_rfl) (fun _ _ h hb => ⟨h.1.out.below hb, h.2.out.below hb⟩) (Ix.vk_keeps _) (Ix.not_al _) ⟨K3, P3⟩
  case step =>
    refine zyx 9 0 1 [] (fun wi HB => ?_) <| zyx 8 1 2 [] (fun wi HB => ?_) <| zyx 7 2 3 [] (fun wi HB => ?_) <| zyx 6 3 4 [(0, some 63), (1, some 64), (2, some 65)] (fun wi HB => ?_) <| zyx 5 4 5 [] (fun wi HB => ?_) <| zyx 4 5 6 [] (fun wi HB => ?_) <| zyx 3 6 7 [] (fun wi HB => ?_) <| zyx 2 7 8 [(4, some 67), (5, some 68), (6, some 69)] (fun wi HB => ?_) <| zyx 1 8 9 [(3, some 66)] (fun wi HB => ?_) <| zyx 0 9 10 [(7, some 70)] (fun wi HB => ?_) <| Ix.steps_nil
    (· ((repeat (refine zya ?_; rintro _ rfl)); refine zye ?_; (try simp only [zyp]); refine Ix.goI_yes rfl rfl fun K hK => ?_; (try simp only [zyp] at hK); go_wp2_with (first | fail); exact hK _ _ (Below.refl _ _) rfl))
    iterate 2 (· (obtain ⟨HB, HT⟩ := HB; obtain ⟨x0, x1, x2, x3⟩ := HB.out.x; obtain ⟨y0, y1, y2, y3⟩ := HB.out.y; obtain ⟨t0, t1, t2, t3⟩ := HT.out; (repeat (refine zya ?_; rintro _ rfl)); refine zye ?_; (try simp only [zyp]); refine Ix.goI_yes rfl rfl fun K hK => ?_; (try simp only [zyp] at hK); go_wp2_with (first | fail); exact hK _ _ (Below.refl _ _) rfl))
    (· (obtain ⟨HB, HT⟩ := HB; obtain ⟨x0, x1, x2, x3⟩ := HB.out.x; obtain ⟨y0, y1, y2, y3⟩ := HB.out.y; obtain ⟨t0, t1, t2, t3⟩ := HT.out; (repeat (refine zya ?_; rintro _ rfl)); refine zye ?_; (try simp only [zyp]); refine Ix.goI_yes rfl rfl fun K hK => ?_; (try simp only [zyp] at hK); go_wp2_with (first | (go_at_call_of 38 (Value.agg #[Value.int IntKind.i64 xb, Value.bool xs]); refine (CA.out _).mono ?_; rintro e wa ⟨rfl, hba⟩)); exact hK _ _ hba rfl))
    (· ((repeat (refine zya ?_; rintro _ rfl)); refine zye ?_; (try simp only [zyp]); refine Ix.goI_yes rfl rfl fun K hK => ?_; (try simp only [zyp] at hK); go_wp2_with (first | fail); exact hK _ _ (Below.refl _ _) rfl))
    iterate 2 (· (obtain ⟨HB, HT⟩ := HB; obtain ⟨x0, x1, x2, x3⟩ := HB.out.x; obtain ⟨y0, y1, y2, y3⟩ := HB.out.y; obtain ⟨t0, t1, t2, t3⟩ := HT.out; (repeat (refine zya ?_; rintro _ rfl)); refine zye ?_; (try simp only [zyp]); refine Ix.goI_yes rfl rfl fun K hK => ?_; (try simp only [zyp] at hK); go_wp2_with (first | fail); exact hK _ _ (Below.refl _ _) rfl))
    (· (obtain ⟨HB, HT⟩ := HB; obtain ⟨x0, x1, x2, x3⟩ := HB.out.x; obtain ⟨y0, y1, y2, y3⟩ := HB.out.y; obtain ⟨t0, t1, t2, t3⟩ := HT.out; (repeat (refine zya ?_; rintro _ rfl)); refine zye ?_; (try simp only [zyp]); refine Ix.goI_yes rfl rfl fun K hK => ?_; (try simp only [zyp] at hK); go_wp2_with (first | (go_at_call 38; refine (CB.out _).mono ?_; rintro e wa ⟨rfl, hba⟩)); exact hK _ _ hba rfl))
    iterate 2 (· ((repeat (refine zya ?_; rintro _ rfl)); refine zye ?_; (try simp only [zyp]); refine Ix.goI_yes rfl rfl fun K hK => ?_; (try simp only [zyp] at hK); go_wp2_with (first | fail); exact hK _ _ (Below.refl _ _) rfl))
  intro vsf wf HF hdf
  refine zyv 9 0 1 ?_; rintro _ _ rfl; refine zyv 8 1 2 ?_; rintro _ _ rfl; refine zyv 7 2 3 ?_; rintro _ _ rfl; refine zyv 6 3 4 ?_; rintro _ _ rfl; refine zyv 5 4 5 ?_; rintro _ _ rfl; refine zyv 4 5 6 ?_; rintro _ _ rfl; refine zyv 3 6 7 ?_; rintro _ _ rfl; refine zyv 2 7 8 ?_; rintro _ _ rfl; refine zyv 1 8 9 ?_; rintro _ _ rfl; refine zyv 0 9 10 ?_; rintro _ _ rfl
  refine Ix.allV_nil ?_
  (try simp only [Act.put, List.setIfInBounds_toArray, List.set_cons_zero, List.set_cons_succ, List.drop_succ_cons, List.drop_zero])
  refine Ix.nil ?_
  have HF1 := HF
  clear hdf
  go_wp2
  apply Ix.wp_region 8 (fun wi => Hid (Tl w xb xs yb ys wi) ∧ Hid (Ty wi w3.heap.size T TS)) (Ix.vk [(Ix.kis _), (Ix.kis _), (Ix.kwld (fun v w' => ∃ g, v = P g ∧ Io w' g M1) (fun v w1 w2 h hb => by obtain ⟨g, e, hi⟩ := h; exact ⟨g, e, hi.below hb⟩)), (Ix.kis _), (Ix.kis _), (Ix.kwld (fun v w' => ∃ g, v = P g ∧ Io w' g M2) (fun v w1 w2 h hb => by obtain ⟨g, e, hi⟩ := h; exact ⟨g, e, hi.below hb⟩)), (Ix.ksat (fun v => ∃ C : Int, Hid (C = cmpZ M1 M2) ∧ v = .int .i64 C)), (Ix.ksat (fun v => ∃ C : Int, Hid (C = cmpZ M1 M2) ∧ v = .int .i64 C))]) (fun _ => false) (by kernel_rfl) (by kernel_rfl) (by kernel_rfl) (fun _ _ h hb => ⟨h.1.out.below hb, h.2.out.below hb⟩) (Ix.vk_keeps _) (Ix.not_al _) HF1
  case step =>
    refine zyx 7 0 1 [] (fun wi HB => ?_) <| zyx 6 1 2 [] (fun wi HB => ?_) <| zyx 5 2 3 [(0, some 71), (1, some 72)] (fun wi HB => ?_) <| zyx 4 3 4 [] (fun wi HB => ?_) <| zyx 3 4 5 [] (fun wi HB => ?_) <| zyx 2 5 6 [(3, some 74), (4, some 75)] (fun wi HB => ?_) <| zyx 1 6 7 [(2, some 73), (5, some 76)] (fun wi HB => ?_) <| zyx 0 7 8 [(6, some 77)] (fun wi HB => ?_) <| Ix.steps_nil
    (· ((repeat (refine zya ?_; rintro _ rfl)); refine zye ?_; (try simp only [zyp]); refine Ix.goI_yes rfl rfl fun K hK => ?_; (try simp only [zyp] at hK); go_wp2_with (first | fail); exact hK _ _ (Below.refl _ _) rfl))
    (· (obtain ⟨HB, HT⟩ := HB; obtain ⟨t0, t1, t2, t3⟩ := HT.out; (repeat (refine zya ?_; rintro _ rfl)); refine zye ?_; (try simp only [zyp]); refine Ix.goI_yes rfl rfl fun K hK => ?_; (try simp only [zyp] at hK); go_wp2_with (first | fail); exact hK _ _ (Below.refl _ _) rfl))
    (· (obtain ⟨HB, HT⟩ := HB; obtain ⟨t0, t1, t2, t3⟩ := HT.out; (repeat (refine zya ?_; rintro _ rfl)); refine zye ?_; (try simp only [zyp]); refine Ix.goI_yes rfl rfl fun K hK => ?_; (try simp only [zyp] at hK); go_wp2_with (first | (go_at_call 53; refine (MA.out _).mono ?_; rintro e wa ⟨ga, rfl, hga, hba, hia⟩)); exact hK _ _ hba ⟨_, rfl, hia⟩))
    (· ((repeat (refine zya ?_; rintro _ rfl)); refine zye ?_; (try simp only [zyp]); refine Ix.goI_yes rfl rfl fun K hK => ?_; (try simp only [zyp] at hK); go_wp2_with (first | fail); exact hK _ _ (Below.refl _ _) rfl))
    (· (obtain ⟨HB, HT⟩ := HB; obtain ⟨t0, t1, t2, t3⟩ := HT.out; (repeat (refine zya ?_; rintro _ rfl)); refine zye ?_; (try simp only [zyp]); refine Ix.goI_yes rfl rfl fun K hK => ?_; (try simp only [zyp] at hK); go_wp2_with (first | fail); exact hK _ _ (Below.refl _ _) rfl))
    (· (obtain ⟨HB, HT⟩ := HB; obtain ⟨t0, t1, t2, t3⟩ := HT.out; (repeat (refine zya ?_; rintro _ rfl)); refine zye ?_; (try simp only [zyp]); refine Ix.goI_yes rfl rfl fun K hK => ?_; (try simp only [zyp] at hK); go_wp2_with (first | (go_at_call 53; refine (MB.out _).mono ?_; rintro e wa ⟨ga, rfl, hga, hba, hia⟩)); exact hK _ _ hba ⟨_, rfl, hia⟩))
    (· (obtain ⟨HB, HT⟩ := HB; obtain ⟨t0, t1, t2, t3⟩ := HT.out; refine zya ?_; rintro _ ⟨g2, rfl, hg2⟩; refine zya ?_; rintro _ ⟨g5, rfl, hg5⟩; refine zye ?_; (try simp only [zyp]); refine Ix.goI_yes rfl rfl fun K hK => ?_; (try simp only [zyp] at hK); go_wp2_with (first | (go_at_call 52; refine (CC.out _ _ _ hg2 hg5).mono ?_; rintro e wa ⟨C, hca, rfl, m, rfl⟩)); exact hK _ _ (below_drewN (Below.refl _ _) _) ⟨_, hca, rfl⟩))
    (· (obtain ⟨HB, HT⟩ := HB; obtain ⟨t0, t1, t2, t3⟩ := HT.out; refine zya ?_; rintro _ ⟨c6, hc6, rfl⟩; refine zye ?_; (try simp only [zyp]); refine Ix.goI_yes rfl rfl fun K hK => ?_; (try simp only [zyp] at hK); go_wp2_with (first | fail); exact hK _ _ (Below.refl _ _) ⟨_, hc6, rfl⟩))
  intro vsf wf HF hdf
  refine zyv 7 0 1 ?_; rintro _ _ rfl; refine zyv 6 1 2 ?_; rintro _ _ rfl; refine zyv 5 2 3 ?_; rintro _ _ ⟨g2, rfl, hg2⟩; refine zyv 4 3 4 ?_; rintro _ _ rfl; refine zyv 3 4 5 ?_; rintro _ _ rfl; refine zyv 2 5 6 ?_; rintro _ _ ⟨g5, rfl, hg5⟩; refine zyv 1 6 7 ?_; rintro _ _ ⟨c6, hc6, rfl⟩; refine zyv 0 7 8 ?_; rintro _ _ ⟨c7, hc7, rfl⟩
  refine Ix.allV_nil ?_
  obtain ⟨HB, HT⟩ := HF; obtain ⟨t0, t1, t2, t3⟩ := HT.out; have HC7 := hc7; clear hc6 hc7 hg2 hg5 hdf HF1
  (try simp only [Act.put, List.setIfInBounds_toArray, List.set_cons_zero, List.set_cons_succ, List.drop_succ_cons, List.drop_zero])
  refine Ix.nil ?_
  have hz : (decide (c7 < 0)) = z := by rw [HC7.out]; exact HZ.out
  clear HC7
  cases z
  · go_wp2
    go_ret2
    exact ⟨by rw [HR.out]; rfl, HB.out.ext⟩
  · go_wp2
    go_ret2
    exact ⟨by rw [HR.out]; rfl, HB.out.ext⟩
set_option maxHeartbeats 8000000 in
theorem r7binary_cmp17 (a b xb yb T p q M1 M2 : Int) (xs ys TS z : Bool) (hz : (decide (cmpZ M1 M2 ≤ 0)) = z)
    (VX : Hid (Gives 32 #[W.ty xb xs] (.bool true))) (VY : Hid (Gives 32 #[W.ty yb ys] (.bool true))) (NP : Hid (Gives 76 #[W.ty xb xs, W.ty yb ys] (W.ty T TS)))
    (CA : Hid (Gives 38 #[.int .u64 a, W.ty xb xs, W.ty T TS] (.int .u64 p))) (CB : Hid (Gives 38 #[.int .u64 b, W.ty yb ys, W.ty T TS] (.int .u64 q)))
    (MA : Hid (∀ w : World, Calls Try.prog 53 #[.int .u64 p, W.ty T TS] w (NewIo w M1))) (MB : Hid (∀ w : World, Calls Try.prog 53 #[.int .u64 q, W.ty T TS] w (NewIo w M2)))
    (w : World) :
    Calls Try.prog 41 #[.int .i64 17, .int .u64 a, .int .u64 b, W.ty xb xs, W.ty yb ys] w (BiR (if z then 1 else 0) 0 w) := by
  have HZ := Lib.hid hz
  obtain ⟨R, hR⟩ : ∃ R : Int, R = if z then 1 else 0 := ⟨_, rfl⟩
  rw [← hR]
  have HR := Lib.hid hR
  clear hz hR
  have K0 := Lib.hid (Tl.start w xb yb xs ys)
  have tok := Lib.hid True.intro
  have CC : Hid (∀ (w : World) (g g2 : Nat), Io w g M1 → Io w g2 M2 → Calls Try.prog 52 #[P g, P g2] w fun e w' => ∃ C : Int, Hid (C = cmpZ M1 M2) ∧ e = .returned (.int .i64 C) ∧ ∃ m, w' = w.drewN m) := fun w g g2 a b =>
    (intCmp_ok g g2 M1 M2 w a b).mono fun e w' ⟨h1, h2⟩ => ⟨_, (rfl : cmpZ M1 M2 = cmpZ M1 M2), h1, h2⟩
  go_enter Try.func41, Try.ntmps41
  go_wp2_with (first | (go_at_call_of 32 (Value.agg #[Value.int IntKind.i64 xb, Value.bool xs]); have _t := tok; refine (VX.out _).mono ?_; rintro e w1 ⟨rfl, hb1⟩; have K1 := Lib.hid (K0.out.below hb1); clear hb1 tok _t; obtain ⟨x0, x1, x2, x3⟩ := K1.out.x; obtain ⟨y0, y1, y2, y3⟩ := K1.out.y) | (go_at_call 32; refine (VY.out _).mono ?_; rintro e w2 ⟨rfl, hb2⟩; have K2 := Lib.hid (K1.out.below hb2); clear hb2 x0 x1 x2 x3 y0 y1 y2 y3; obtain ⟨x0, x1, x2, x3⟩ := K2.out.x; obtain ⟨y0, y1, y2, y3⟩ := K2.out.y) | (go_at_call 76; refine (NP.out _).mono ?_; rintro e w3 ⟨rfl, hb3⟩; have K3 := Lib.hid ((K2.out.below hb3).below (Ext.alloc (Below.refl _ _) (.cells #[.int .i64 T, .bool TS] 31))); have P3 := Lib.hid (Ty.new w3 rfl T TS 31); clear hb3 x0 x1 x2 x3 y0 y1 y2 y3))
  generalize (w3.alloc (.cells #[.int .i64 T, .bool TS] 31)) = wx at *
  apply Ix.wp_region 10 (fun wi => Hid (Tl w xb xs yb ys wi) ∧ Hid (Ty wi w3.heap.size T TS)) (Ix.vk [(Ix.kis _), (Ix.kis _), (Ix.kis _), (Ix.kis (.int .u64 p)), (Ix.kis _), (Ix.kis _), (Ix.kis _), (Ix.kis (.int .u64 q)), (Ix.kis _), (Ix.kis _)]) (fun _ => false) (by kernel_rfl) (by kernel_rfl) (by kernel_rfl) (fun _ _ h hb => ⟨h.1.out.below hb, h.2.out.below hb⟩) (Ix.vk_keeps _) (Ix.not_al _) ⟨K3, P3⟩
  case step =>
    refine zyx 9 0 1 [] (fun wi HB => ?_) <| zyx 8 1 2 [] (fun wi HB => ?_) <| zyx 7 2 3 [] (fun wi HB => ?_) <| zyx 6 3 4 [(0, some 63), (1, some 64), (2, some 65)] (fun wi HB => ?_) <| zyx 5 4 5 [] (fun wi HB => ?_) <| zyx 4 5 6 [] (fun wi HB => ?_) <| zyx 3 6 7 [] (fun wi HB => ?_) <| zyx 2 7 8 [(4, some 67), (5, some 68), (6, some 69)] (fun wi HB => ?_) <| zyx 1 8 9 [(3, some 66)] (fun wi HB => ?_) <| zyx 0 9 10 [(7, some 70)] (fun wi HB => ?_) <| Ix.steps_nil
    (· ((repeat (refine zya ?_; rintro _ rfl)); refine zye ?_; (try simp only [zyp]); refine Ix.goI_yes rfl rfl fun K hK => ?_; (try simp only [zyp] at hK); go_wp2_with (first | fail); exact hK _ _ (Below.refl _ _) rfl))
    iterate 2 (· (obtain ⟨HB, HT⟩ := HB; obtain ⟨x0, x1, x2, x3⟩ := HB.out.x; obtain ⟨y0, y1, y2, y3⟩ := HB.out.y; obtain ⟨t0, t1, t2, t3⟩ := HT.out; (repeat (refine zya ?_; rintro _ rfl)); refine zye ?_; (try simp only [zyp]); refine Ix.goI_yes rfl rfl fun K hK => ?_; (try simp only [zyp] at hK); go_wp2_with (first | fail); exact hK _ _ (Below.refl _ _) rfl))
    (· (obtain ⟨HB, HT⟩ := HB; obtain ⟨x0, x1, x2, x3⟩ := HB.out.x; obtain ⟨y0, y1, y2, y3⟩ := HB.out.y; obtain ⟨t0, t1, t2, t3⟩ := HT.out; (repeat (refine zya ?_; rintro _ rfl)); refine zye ?_; (try simp only [zyp]); refine Ix.goI_yes rfl rfl fun K hK => ?_; (try simp only [zyp] at hK); go_wp2_with (first | (go_at_call_of 38 (Value.agg #[Value.int IntKind.i64 xb, Value.bool xs]); refine (CA.out _).mono ?_; rintro e wa ⟨rfl, hba⟩)); exact hK _ _ hba rfl))
    (· ((repeat (refine zya ?_; rintro _ rfl)); refine zye ?_; (try simp only [zyp]); refine Ix.goI_yes rfl rfl fun K hK => ?_; (try simp only [zyp] at hK); go_wp2_with (first | fail); exact hK _ _ (Below.refl _ _) rfl))
    iterate 2 (· (obtain ⟨HB, HT⟩ := HB; obtain ⟨x0, x1, x2, x3⟩ := HB.out.x; obtain ⟨y0, y1, y2, y3⟩ := HB.out.y; obtain ⟨t0, t1, t2, t3⟩ := HT.out; (repeat (refine zya ?_; rintro _ rfl)); refine zye ?_; (try simp only [zyp]); refine Ix.goI_yes rfl rfl fun K hK => ?_; (try simp only [zyp] at hK); go_wp2_with (first | fail); exact hK _ _ (Below.refl _ _) rfl))
    (· (obtain ⟨HB, HT⟩ := HB; obtain ⟨x0, x1, x2, x3⟩ := HB.out.x; obtain ⟨y0, y1, y2, y3⟩ := HB.out.y; obtain ⟨t0, t1, t2, t3⟩ := HT.out; (repeat (refine zya ?_; rintro _ rfl)); refine zye ?_; (try simp only [zyp]); refine Ix.goI_yes rfl rfl fun K hK => ?_; (try simp only [zyp] at hK); go_wp2_with (first | (go_at_call 38; refine (CB.out _).mono ?_; rintro e wa ⟨rfl, hba⟩)); exact hK _ _ hba rfl))
    iterate 2 (· ((repeat (refine zya ?_; rintro _ rfl)); refine zye ?_; (try simp only [zyp]); refine Ix.goI_yes rfl rfl fun K hK => ?_; (try simp only [zyp] at hK); go_wp2_with (first | fail); exact hK _ _ (Below.refl _ _) rfl))
  intro vsf wf HF hdf
  refine zyv 9 0 1 ?_; rintro _ _ rfl; refine zyv 8 1 2 ?_; rintro _ _ rfl; refine zyv 7 2 3 ?_; rintro _ _ rfl; refine zyv 6 3 4 ?_; rintro _ _ rfl; refine zyv 5 4 5 ?_; rintro _ _ rfl; refine zyv 4 5 6 ?_; rintro _ _ rfl; refine zyv 3 6 7 ?_; rintro _ _ rfl; refine zyv 2 7 8 ?_; rintro _ _ rfl; refine zyv 1 8 9 ?_; rintro _ _ rfl; refine zyv 0 9 10 ?_; rintro _ _ rfl
  refine Ix.allV_nil ?_
  (try simp only [Act.put, List.setIfInBounds_toArray, List.set_cons_zero, List.set_cons_succ, List.drop_succ_cons, List.drop_zero])
  refine Ix.nil ?_
  have HF1 := HF
  clear hdf
  go_wp2
  apply Ix.wp_region 8 (fun wi => Hid (Tl w xb xs yb ys wi) ∧ Hid (Ty wi w3.heap.size T TS)) (Ix.vk [(Ix.kis _), (Ix.kis _), (Ix.kwld (fun v w' => ∃ g, v = P g ∧ Io w' g M1) (fun v w1 w2 h hb => by obtain ⟨g, e, hi⟩ := h; exact ⟨g, e, hi.below hb⟩)), (Ix.kis _), (Ix.kis _), (Ix.kwld (fun v w' => ∃ g, v = P g ∧ Io w' g M2) (fun v w1 w2 h hb => by obtain ⟨g, e, hi⟩ := h; exact ⟨g, e, hi.below hb⟩)), (Ix.ksat (fun v => ∃ C : Int, Hid (C = cmpZ M1 M2) ∧ v = .int .i64 C)), (Ix.ksat (fun v => ∃ C : Int, Hid (C = cmpZ M1 M2) ∧ v = .int .i64 C))]) (fun _ => false) (by kernel_rfl) (by kernel_rfl) (by kernel_rfl) (fun _ _ h hb => ⟨h.1.out.below hb, h.2.out.below hb⟩) (Ix.vk_keeps _) (Ix.not_al _) HF1
  case step =>
    refine zyx 7 0 1 [] (fun wi HB => ?_) <| zyx 6 1 2 [] (fun wi HB => ?_) <| zyx 5 2 3 [(0, some 71), (1, some 72)] (fun wi HB => ?_) <| zyx 4 3 4 [] (fun wi HB => ?_) <| zyx 3 4 5 [] (fun wi HB => ?_) <| zyx 2 5 6 [(3, some 74), (4, some 75)] (fun wi HB => ?_) <| zyx 1 6 7 [(2, some 73), (5, some 76)] (fun wi HB => ?_) <| zyx 0 7 8 [(6, some 77)] (fun wi HB => ?_) <| Ix.steps_nil
    (· ((repeat (refine zya ?_; rintro _ rfl)); refine zye ?_; (try simp only [zyp]); refine Ix.goI_yes rfl rfl fun K hK => ?_; (try simp only [zyp] at hK); go_wp2_with (first | fail); exact hK _ _ (Below.refl _ _) rfl))
    (· (obtain ⟨HB, HT⟩ := HB; obtain ⟨t0, t1, t2, t3⟩ := HT.out; (repeat (refine zya ?_; rintro _ rfl)); refine zye ?_; (try simp only [zyp]); refine Ix.goI_yes rfl rfl fun K hK => ?_; (try simp only [zyp] at hK); go_wp2_with (first | fail); exact hK _ _ (Below.refl _ _) rfl))
    (· (obtain ⟨HB, HT⟩ := HB; obtain ⟨t0, t1, t2, t3⟩ := HT.out; (repeat (refine zya ?_; rintro _ rfl)); refine zye ?_; (try simp only [zyp]); refine Ix.goI_yes rfl rfl fun K hK => ?_; (try simp only [zyp] at hK); go_wp2_with (first | (go_at_call 53; refine (MA.out _).mono ?_; rintro e wa ⟨ga, rfl, hga, hba, hia⟩)); exact hK _ _ hba ⟨_, rfl, hia⟩))
    (· ((repeat (refine zya ?_; rintro _ rfl)); refine zye ?_; (try simp only [zyp]); refine Ix.goI_yes rfl rfl fun K hK => ?_; (try simp only [zyp] at hK); go_wp2_with (first | fail); exact hK _ _ (Below.refl _ _) rfl))
    (· (obtain ⟨HB, HT⟩ := HB; obtain ⟨t0, t1, t2, t3⟩ := HT.out; (repeat (refine zya ?_; rintro _ rfl)); refine zye ?_; (try simp only [zyp]); refine Ix.goI_yes rfl rfl fun K hK => ?_; (try simp only [zyp] at hK); go_wp2_with (first | fail); exact hK _ _ (Below.refl _ _) rfl))
    (· (obtain ⟨HB, HT⟩ := HB; obtain ⟨t0, t1, t2, t3⟩ := HT.out; (repeat (refine zya ?_; rintro _ rfl)); refine zye ?_; (try simp only [zyp]); refine Ix.goI_yes rfl rfl fun K hK => ?_; (try simp only [zyp] at hK); go_wp2_with (first | (go_at_call 53; refine (MB.out _).mono ?_; rintro e wa ⟨ga, rfl, hga, hba, hia⟩)); exact hK _ _ hba ⟨_, rfl, hia⟩))
    (· (obtain ⟨HB, HT⟩ := HB; obtain ⟨t0, t1, t2, t3⟩ := HT.out; refine zya ?_; rintro _ ⟨g2, rfl, hg2⟩; refine zya ?_; rintro _ ⟨g5, rfl, hg5⟩; refine zye ?_; (try simp only [zyp]); refine Ix.goI_yes rfl rfl fun K hK => ?_; (try simp only [zyp] at hK); go_wp2_with (first | (go_at_call 52; refine (CC.out _ _ _ hg2 hg5).mono ?_; rintro e wa ⟨C, hca, rfl, m, rfl⟩)); exact hK _ _ (below_drewN (Below.refl _ _) _) ⟨_, hca, rfl⟩))
    (· (obtain ⟨HB, HT⟩ := HB; obtain ⟨t0, t1, t2, t3⟩ := HT.out; refine zya ?_; rintro _ ⟨c6, hc6, rfl⟩; refine zye ?_; (try simp only [zyp]); refine Ix.goI_yes rfl rfl fun K hK => ?_; (try simp only [zyp] at hK); go_wp2_with (first | fail); exact hK _ _ (Below.refl _ _) ⟨_, hc6, rfl⟩))
  intro vsf wf HF hdf
  refine zyv 7 0 1 ?_; rintro _ _ rfl; refine zyv 6 1 2 ?_; rintro _ _ rfl; refine zyv 5 2 3 ?_; rintro _ _ ⟨g2, rfl, hg2⟩; refine zyv 4 3 4 ?_; rintro _ _ rfl; refine zyv 3 4 5 ?_; rintro _ _ rfl; refine zyv 2 5 6 ?_; rintro _ _ ⟨g5, rfl, hg5⟩; refine zyv 1 6 7 ?_; rintro _ _ ⟨c6, hc6, rfl⟩; refine zyv 0 7 8 ?_; rintro _ _ ⟨c7, hc7, rfl⟩
  refine Ix.allV_nil ?_
  obtain ⟨HB, HT⟩ := HF; obtain ⟨t0, t1, t2, t3⟩ := HT.out; have HC7 := hc7; clear hc6 hc7 hg2 hg5 hdf HF1
  (try simp only [Act.put, List.setIfInBounds_toArray, List.set_cons_zero, List.set_cons_succ, List.drop_succ_cons, List.drop_zero])
  refine Ix.nil ?_
  have hz : (decide (c7 ≤ 0)) = z := by rw [HC7.out]; exact HZ.out
  clear HC7
  cases z
  · go_wp2
    go_ret2
    exact ⟨by rw [HR.out]; rfl, HB.out.ext⟩
  · go_wp2
    go_ret2
    exact ⟨by rw [HR.out]; rfl, HB.out.ext⟩
set_option maxHeartbeats 8000000 in
theorem r7binary_cmp18 (a b xb yb T p q M1 M2 : Int) (xs ys TS z : Bool) (hz : (decide (cmpZ M1 M2 > 0)) = z)
    (VX : Hid (Gives 32 #[W.ty xb xs] (.bool true))) (VY : Hid (Gives 32 #[W.ty yb ys] (.bool true))) (NP : Hid (Gives 76 #[W.ty xb xs, W.ty yb ys] (W.ty T TS)))
    (CA : Hid (Gives 38 #[.int .u64 a, W.ty xb xs, W.ty T TS] (.int .u64 p))) (CB : Hid (Gives 38 #[.int .u64 b, W.ty yb ys, W.ty T TS] (.int .u64 q)))
    (MA : Hid (∀ w : World, Calls Try.prog 53 #[.int .u64 p, W.ty T TS] w (NewIo w M1))) (MB : Hid (∀ w : World, Calls Try.prog 53 #[.int .u64 q, W.ty T TS] w (NewIo w M2)))
    (w : World) :
    Calls Try.prog 41 #[.int .i64 18, .int .u64 a, .int .u64 b, W.ty xb xs, W.ty yb ys] w (BiR (if z then 1 else 0) 0 w) := by
  have HZ := Lib.hid hz
  obtain ⟨R, hR⟩ : ∃ R : Int, R = if z then 1 else 0 := ⟨_, rfl⟩
  rw [← hR]
  have HR := Lib.hid hR
  clear hz hR
  have K0 := Lib.hid (Tl.start w xb yb xs ys)
  have tok := Lib.hid True.intro
  have CC : Hid (∀ (w : World) (g g2 : Nat), Io w g M1 → Io w g2 M2 → Calls Try.prog 52 #[P g, P g2] w fun e w' => ∃ C : Int, Hid (C = cmpZ M1 M2) ∧ e = .returned (.int .i64 C) ∧ ∃ m, w' = w.drewN m) := fun w g g2 a b =>
    (intCmp_ok g g2 M1 M2 w a b).mono fun e w' ⟨h1, h2⟩ => ⟨_, (rfl : cmpZ M1 M2 = cmpZ M1 M2), h1, h2⟩
  go_enter Try.func41, Try.ntmps41
  go_wp2_with (first | (go_at_call_of 32 (Value.agg #[Value.int IntKind.i64 xb, Value.bool xs]); have _t := tok; refine (VX.out _).mono ?_; rintro e w1 ⟨rfl, hb1⟩; have K1 := Lib.hid (K0.out.below hb1); clear hb1 tok _t; obtain ⟨x0, x1, x2, x3⟩ := K1.out.x; obtain ⟨y0, y1, y2, y3⟩ := K1.out.y) | (go_at_call 32; refine (VY.out _).mono ?_; rintro e w2 ⟨rfl, hb2⟩; have K2 := Lib.hid (K1.out.below hb2); clear hb2 x0 x1 x2 x3 y0 y1 y2 y3; obtain ⟨x0, x1, x2, x3⟩ := K2.out.x; obtain ⟨y0, y1, y2, y3⟩ := K2.out.y) | (go_at_call 76; refine (NP.out _).mono ?_; rintro e w3 ⟨rfl, hb3⟩; have K3 := Lib.hid ((K2.out.below hb3).below (Ext.alloc (Below.refl _ _) (.cells #[.int .i64 T, .bool TS] 31))); have P3 := Lib.hid (Ty.new w3 rfl T TS 31); clear hb3 x0 x1 x2 x3 y0 y1 y2 y3))
  generalize (w3.alloc (.cells #[.int .i64 T, .bool TS] 31)) = wx at *
  apply Ix.wp_region 10 (fun wi => Hid (Tl w xb xs yb ys wi) ∧ Hid (Ty wi w3.heap.size T TS)) (Ix.vk [(Ix.kis _), (Ix.kis _), (Ix.kis _), (Ix.kis (.int .u64 p)), (Ix.kis _), (Ix.kis _), (Ix.kis _), (Ix.kis (.int .u64 q)), (Ix.kis _), (Ix.kis _)]) (fun _ => false) (by kernel_rfl) (by kernel_rfl) (by kernel_rfl) (fun _ _ h hb => ⟨h.1.out.below hb, h.2.out.below hb⟩) (Ix.vk_keeps _) (Ix.not_al _) ⟨K3, P3⟩
  case step =>
    refine zyx 9 0 1 [] (fun wi HB => ?_) <| zyx 8 1 2 [] (fun wi HB => ?_) <| zyx 7 2 3 [] (fun wi HB => ?_) <| zyx 6 3 4 [(0, some 63), (1, some 64), (2, some 65)] (fun wi HB => ?_) <| zyx 5 4 5 [] (fun wi HB => ?_) <| zyx 4 5 6 [] (fun wi HB => ?_) <| zyx 3 6 7 [] (fun wi HB => ?_) <| zyx 2 7 8 [(4, some 67), (5, some 68), (6, some 69)] (fun wi HB => ?_) <| zyx 1 8 9 [(3, some 66)] (fun wi HB => ?_) <| zyx 0 9 10 [(7, some 70)] (fun wi HB => ?_) <| Ix.steps_nil
    (· ((repeat (refine zya ?_; rintro _ rfl)); refine zye ?_; (try simp only [zyp]); refine Ix.goI_yes rfl rfl fun K hK => ?_; (try simp only [zyp] at hK); go_wp2_with (first | fail); exact hK _ _ (Below.refl _ _) rfl))
    iterate 2 (· (obtain ⟨HB, HT⟩ := HB; obtain ⟨x0, x1, x2, x3⟩ := HB.out.x; obtain ⟨y0, y1, y2, y3⟩ := HB.out.y; obtain ⟨t0, t1, t2, t3⟩ := HT.out; (repeat (refine zya ?_; rintro _ rfl)); refine zye ?_; (try simp only [zyp]); refine Ix.goI_yes rfl rfl fun K hK => ?_; (try simp only [zyp] at hK); go_wp2_with (first | fail); exact hK _ _ (Below.refl _ _) rfl))
    (· (obtain ⟨HB, HT⟩ := HB; obtain ⟨x0, x1, x2, x3⟩ := HB.out.x; obtain ⟨y0, y1, y2, y3⟩ := HB.out.y; obtain ⟨t0, t1, t2, t3⟩ := HT.out; (repeat (refine zya ?_; rintro _ rfl)); refine zye ?_; (try simp only [zyp]); refine Ix.goI_yes rfl rfl fun K hK => ?_; (try simp only [zyp] at hK); go_wp2_with (first | (go_at_call_of 38 (Value.agg #[Value.int IntKind.i64 xb, Value.bool xs]); refine (CA.out _).mono ?_; rintro e wa ⟨rfl, hba⟩)); exact hK _ _ hba rfl))
    (· ((repeat (refine zya ?_; rintro _ rfl)); refine zye ?_; (try simp only [zyp]); refine Ix.goI_yes rfl rfl fun K hK => ?_; (try simp only [zyp] at hK); go_wp2_with (first | fail); exact hK _ _ (Below.refl _ _) rfl))
    iterate 2 (· (obtain ⟨HB, HT⟩ := HB; obtain ⟨x0, x1, x2, x3⟩ := HB.out.x; obtain ⟨y0, y1, y2, y3⟩ := HB.out.y; obtain ⟨t0, t1, t2, t3⟩ := HT.out; (repeat (refine zya ?_; rintro _ rfl)); refine zye ?_; (try simp only [zyp]); refine Ix.goI_yes rfl rfl fun K hK => ?_; (try simp only [zyp] at hK); go_wp2_with (first | fail); exact hK _ _ (Below.refl _ _) rfl))
    (· (obtain ⟨HB, HT⟩ := HB; obtain ⟨x0, x1, x2, x3⟩ := HB.out.x; obtain ⟨y0, y1, y2, y3⟩ := HB.out.y; obtain ⟨t0, t1, t2, t3⟩ := HT.out; (repeat (refine zya ?_; rintro _ rfl)); refine zye ?_; (try simp only [zyp]); refine Ix.goI_yes rfl rfl fun K hK => ?_; (try simp only [zyp] at hK); go_wp2_with (first | (go_at_call 38; refine (CB.out _).mono ?_; rintro e wa ⟨rfl, hba⟩)); exact hK _ _ hba rfl))
    iterate 2 (· ((repeat (refine zya ?_; rintro _ rfl)); refine zye ?_; (try simp only [zyp]); refine Ix.goI_yes rfl rfl fun K hK => ?_; (try simp only [zyp] at hK); go_wp2_with (first | fail); exact hK _ _ (Below.refl _ _) rfl))
  intro vsf wf HF hdf
  refine zyv 9 0 1 ?_; rintro _ _ rfl; refine zyv 8 1 2 ?_; rintro _ _ rfl; refine zyv 7 2 3 ?_; rintro _ _ rfl; refine zyv 6 3 4 ?_; rintro _ _ rfl; refine zyv 5 4 5 ?_; rintro _ _ rfl; refine zyv 4 5 6 ?_; rintro _ _ rfl; refine zyv 3 6 7 ?_; rintro _ _ rfl; refine zyv 2 7 8 ?_; rintro _ _ rfl; refine zyv 1 8 9 ?_; rintro _ _ rfl; refine zyv 0 9 10 ?_; rintro _ _ rfl
  refine Ix.allV_nil ?_
  (try simp only [Act.put, List.setIfInBounds_toArray, List.set_cons_zero, List.set_cons_succ, List.drop_succ_cons, List.drop_zero])
  refine Ix.nil ?_
  have HF1 := HF
  clear hdf
  go_wp2
  apply Ix.wp_region 8 (fun wi => Hid (Tl w xb xs yb ys wi) ∧ Hid (Ty wi w3.heap.size T TS)) (Ix.vk [(Ix.kis _), (Ix.kis _), (Ix.kwld (fun v w' => ∃ g, v = P g ∧ Io w' g M1) (fun v w1 w2 h hb => by obtain ⟨g, e, hi⟩ := h; exact ⟨g, e, hi.below hb⟩)), (Ix.kis _), (Ix.kis _), (Ix.kwld (fun v w' => ∃ g, v = P g ∧ Io w' g M2) (fun v w1 w2 h hb => by obtain ⟨g, e, hi⟩ := h; exact ⟨g, e, hi.below hb⟩)), (Ix.ksat (fun v => ∃ C : Int, Hid (C = cmpZ M1 M2) ∧ v = .int .i64 C)), (Ix.ksat (fun v => ∃ C : Int, Hid (C = cmpZ M1 M2) ∧ v = .int .i64 C))]) (fun _ => false) (by kernel_rfl) (by kernel_rfl) (by kernel_rfl) (fun _ _ h hb => ⟨h.1.out.below hb, h.2.out.below hb⟩) (Ix.vk_keeps _) (Ix.not_al _) HF1
  case step =>
    refine zyx 7 0 1 [] (fun wi HB => ?_) <| zyx 6 1 2 [] (fun wi HB => ?_) <| zyx 5 2 3 [(0, some 71), (1, some 72)] (fun wi HB => ?_) <| zyx 4 3 4 [] (fun wi HB => ?_) <| zyx 3 4 5 [] (fun wi HB => ?_) <| zyx 2 5 6 [(3, some 74), (4, some 75)] (fun wi HB => ?_) <| zyx 1 6 7 [(2, some 73), (5, some 76)] (fun wi HB => ?_) <| zyx 0 7 8 [(6, some 77)] (fun wi HB => ?_) <| Ix.steps_nil
    (· ((repeat (refine zya ?_; rintro _ rfl)); refine zye ?_; (try simp only [zyp]); refine Ix.goI_yes rfl rfl fun K hK => ?_; (try simp only [zyp] at hK); go_wp2_with (first | fail); exact hK _ _ (Below.refl _ _) rfl))
    (· (obtain ⟨HB, HT⟩ := HB; obtain ⟨t0, t1, t2, t3⟩ := HT.out; (repeat (refine zya ?_; rintro _ rfl)); refine zye ?_; (try simp only [zyp]); refine Ix.goI_yes rfl rfl fun K hK => ?_; (try simp only [zyp] at hK); go_wp2_with (first | fail); exact hK _ _ (Below.refl _ _) rfl))
    (· (obtain ⟨HB, HT⟩ := HB; obtain ⟨t0, t1, t2, t3⟩ := HT.out; (repeat (refine zya ?_; rintro _ rfl)); refine zye ?_; (try simp only [zyp]); refine Ix.goI_yes rfl rfl fun K hK => ?_; (try simp only [zyp] at hK); go_wp2_with (first | (go_at_call 53; refine (MA.out _).mono ?_; rintro e wa ⟨ga, rfl, hga, hba, hia⟩)); exact hK _ _ hba ⟨_, rfl, hia⟩))
    (· ((repeat (refine zya ?_; rintro _ rfl)); refine zye ?_; (try simp only [zyp]); refine Ix.goI_yes rfl rfl fun K hK => ?_; (try simp only [zyp] at hK); go_wp2_with (first | fail); exact hK _ _ (Below.refl _ _) rfl))
    (· (obtain ⟨HB, HT⟩ := HB; obtain ⟨t0, t1, t2, t3⟩ := HT.out; (repeat (refine zya ?_; rintro _ rfl)); refine zye ?_; (try simp only [zyp]); refine Ix.goI_yes rfl rfl fun K hK => ?_; (try simp only [zyp] at hK); go_wp2_with (first | fail); exact hK _ _ (Below.refl _ _) rfl))
    (· (obtain ⟨HB, HT⟩ := HB; obtain ⟨t0, t1, t2, t3⟩ := HT.out; (repeat (refine zya ?_; rintro _ rfl)); refine zye ?_; (try simp only [zyp]); refine Ix.goI_yes rfl rfl fun K hK => ?_; (try simp only [zyp] at hK); go_wp2_with (first | (go_at_call 53; refine (MB.out _).mono ?_; rintro e wa ⟨ga, rfl, hga, hba, hia⟩)); exact hK _ _ hba ⟨_, rfl, hia⟩))
    (· (obtain ⟨HB, HT⟩ := HB; obtain ⟨t0, t1, t2, t3⟩ := HT.out; refine zya ?_; rintro _ ⟨g2, rfl, hg2⟩; refine zya ?_; rintro _ ⟨g5, rfl, hg5⟩; refine zye ?_; (try simp only [zyp]); refine Ix.goI_yes rfl rfl fun K hK => ?_; (try simp only [zyp] at hK); go_wp2_with (first | (go_at_call 52; refine (CC.out _ _ _ hg2 hg5).mono ?_; rintro e wa ⟨C, hca, rfl, m, rfl⟩)); exact hK _ _ (below_drewN (Below.refl _ _) _) ⟨_, hca, rfl⟩))
    (· (obtain ⟨HB, HT⟩ := HB; obtain ⟨t0, t1, t2, t3⟩ := HT.out; refine zya ?_; rintro _ ⟨c6, hc6, rfl⟩; refine zye ?_; (try simp only [zyp]); refine Ix.goI_yes rfl rfl fun K hK => ?_; (try simp only [zyp] at hK); go_wp2_with (first | fail); exact hK _ _ (Below.refl _ _) ⟨_, hc6, rfl⟩))
  intro vsf wf HF hdf
  refine zyv 7 0 1 ?_; rintro _ _ rfl; refine zyv 6 1 2 ?_; rintro _ _ rfl; refine zyv 5 2 3 ?_; rintro _ _ ⟨g2, rfl, hg2⟩; refine zyv 4 3 4 ?_; rintro _ _ rfl; refine zyv 3 4 5 ?_; rintro _ _ rfl; refine zyv 2 5 6 ?_; rintro _ _ ⟨g5, rfl, hg5⟩; refine zyv 1 6 7 ?_; rintro _ _ ⟨c6, hc6, rfl⟩; refine zyv 0 7 8 ?_; rintro _ _ ⟨c7, hc7, rfl⟩
  refine Ix.allV_nil ?_
  obtain ⟨HB, HT⟩ := HF; obtain ⟨t0, t1, t2, t3⟩ := HT.out; have HC7 := hc7; clear hc6 hc7 hg2 hg5 hdf HF1
  (try simp only [Act.put, List.setIfInBounds_toArray, List.set_cons_zero, List.set_cons_succ, List.drop_succ_cons, List.drop_zero])
  refine Ix.nil ?_
  have hz : (decide (c7 > 0)) = z := by rw [HC7.out]; exact HZ.out
  clear HC7
  cases z
  · go_wp2
    go_ret2
    exact ⟨by rw [HR.out]; rfl, HB.out.ext⟩
  · go_wp2
    go_ret2
    exact ⟨by rw [HR.out]; rfl, HB.out.ext⟩
set_option maxHeartbeats 8000000 in
theorem r7binary_cmp19 (a b xb yb T p q M1 M2 : Int) (xs ys TS z : Bool) (hz : (decide (cmpZ M1 M2 ≥ 0)) = z)
    (VX : Hid (Gives 32 #[W.ty xb xs] (.bool true))) (VY : Hid (Gives 32 #[W.ty yb ys] (.bool true))) (NP : Hid (Gives 76 #[W.ty xb xs, W.ty yb ys] (W.ty T TS)))
    (CA : Hid (Gives 38 #[.int .u64 a, W.ty xb xs, W.ty T TS] (.int .u64 p))) (CB : Hid (Gives 38 #[.int .u64 b, W.ty yb ys, W.ty T TS] (.int .u64 q)))
    (MA : Hid (∀ w : World, Calls Try.prog 53 #[.int .u64 p, W.ty T TS] w (NewIo w M1))) (MB : Hid (∀ w : World, Calls Try.prog 53 #[.int .u64 q, W.ty T TS] w (NewIo w M2)))
    (w : World) :
    Calls Try.prog 41 #[.int .i64 19, .int .u64 a, .int .u64 b, W.ty xb xs, W.ty yb ys] w (BiR (if z then 1 else 0) 0 w) := by
  have HZ := Lib.hid hz
  obtain ⟨R, hR⟩ : ∃ R : Int, R = if z then 1 else 0 := ⟨_, rfl⟩
  rw [← hR]
  have HR := Lib.hid hR
  clear hz hR
  have K0 := Lib.hid (Tl.start w xb yb xs ys)
  have tok := Lib.hid True.intro
  have CC : Hid (∀ (w : World) (g g2 : Nat), Io w g M1 → Io w g2 M2 → Calls Try.prog 52 #[P g, P g2] w fun e w' => ∃ C : Int, Hid (C = cmpZ M1 M2) ∧ e = .returned (.int .i64 C) ∧ ∃ m, w' = w.drewN m) := fun w g g2 a b =>
    (intCmp_ok g g2 M1 M2 w a b).mono fun e w' ⟨h1, h2⟩ => ⟨_, (rfl : cmpZ M1 M2 = cmpZ M1 M2), h1, h2⟩
  go_enter Try.func41, Try.ntmps41
  go_wp2_with (first | (go_at_call_of 32 (Value.agg #[Value.int IntKind.i64 xb, Value.bool xs]); have _t := tok; refine (VX.out _).mono ?_; rintro e w1 ⟨rfl, hb1⟩; have K1 := Lib.hid (K0.out.below hb1); clear hb1 tok _t; obtain ⟨x0, x1, x2, x3⟩ := K1.out.x; obtain ⟨y0, y1, y2, y3⟩ := K1.out.y) | (go_at_call 32; refine (VY.out _).mono ?_; rintro e w2 ⟨rfl, hb2⟩; have K2 := Lib.hid (K1.out.below hb2); clear hb2 x0 x1 x2 x3 y0 y1 y2 y3; obtain ⟨x0, x1, x2, x3⟩ := K2.out.x; obtain ⟨y0, y1, y2, y3⟩ := K2.out.y) | (go_at_call 76; refine (NP.out _).mono ?_; rintro e w3 ⟨rfl, hb3⟩; have K3 := Lib.hid ((K2.out.below hb3).below (Ext.alloc (Below.refl _ _) (.cells #[.int .i64 T, .bool TS] 31))); have P3 := Lib.hid (Ty.new w3 rfl T TS 31); clear hb3 x0 x1 x2 x3 y0 y1 y2 y3))
  generalize (w3.alloc (.cells #[.int .i64 T, .bool TS] 31)) = wx at *
  apply Ix.wp_region 10 (fun wi => Hid (Tl w xb xs yb ys wi) ∧ Hid (Ty wi w3.heap.size T TS)) (Ix.vk [(Ix.kis _), (Ix.kis _), (Ix.kis _), (Ix.kis (.int .u64 p)), (Ix.kis _), (Ix.kis _), (Ix.kis _), (Ix.kis (.int .u64 q)), (Ix.kis _), (Ix.kis _)]) (fun _ => false) (by kernel_rfl) (by kernel_rfl) (by kernel_rfl) (fun _ _ h hb => ⟨h.1.out.below hb, h.2.out.below hb⟩) (Ix.vk_keeps _) (Ix.not_al _) ⟨K3, P3⟩
  case step =>
    refine zyx 9 0 1 [] (fun wi HB => ?_) <| zyx 8 1 2 [] (fun wi HB => ?_) <| zyx 7 2 3 [] (fun wi HB => ?_) <| zyx 6 3 4 [(0, some 63), (1, some 64), (2, some 65)] (fun wi HB => ?_) <| zyx 5 4 5 [] (fun wi HB => ?_) <| zyx 4 5 6 [] (fun wi HB => ?_) <| zyx 3 6 7 [] (fun wi HB => ?_) <| zyx 2 7 8 [(4, some 67), (5, some 68), (6, some 69)] (fun wi HB => ?_) <| zyx 1 8 9 [(3, some 66)] (fun wi HB => ?_) <| zyx 0 9 10 [(7, some 70)] (fun wi HB => ?_) <| Ix.steps_nil
    (· ((repeat (refine zya ?_; rintro _ rfl)); refine zye ?_; (try simp only [zyp]); refine Ix.goI_yes rfl rfl fun K hK => ?_; (try simp only [zyp] at hK); go_wp2_with (first | fail); exact hK _ _ (Below.refl _ _) rfl))
    iterate 2 (· (obtain ⟨HB, HT⟩ := HB; obtain ⟨x0, x1, x2, x3⟩ := HB.out.x; obtain ⟨y0, y1, y2, y3⟩ := HB.out.y; obtain ⟨t0, t1, t2, t3⟩ := HT.out; (repeat (refine zya ?_; rintro _ rfl)); refine zye ?_; (try simp only [zyp]); refine Ix.goI_yes rfl rfl fun K hK => ?_; (try simp only [zyp] at hK); go_wp2_with (first | fail); exact hK _ _ (Below.refl _ _) rfl))
    (· (obtain ⟨HB, HT⟩ := HB; obtain ⟨x0, x1, x2, x3⟩ := HB.out.x; obtain ⟨y0, y1, y2, y3⟩ := HB.out.y; obtain ⟨t0, t1, t2, t3⟩ := HT.out; (repeat (refine zya ?_; rintro _ rfl)); refine zye ?_; (try simp only [zyp]); refine Ix.goI_yes rfl rfl fun K hK => ?_; (try simp only [zyp] at hK); go_wp2_with (first | (go_at_call_of 38 (Value.agg #[Value.int IntKind.i64 xb, Value.bool xs]); refine (CA.out _).mono ?_; rintro e wa ⟨rfl, hba⟩)); exact hK _ _ hba rfl))
    (· ((repeat (refine zya ?_; rintro _ rfl)); refine zye ?_; (try simp only [zyp]); refine Ix.goI_yes rfl rfl fun K hK => ?_; (try simp only [zyp] at hK); go_wp2_with (first | fail); exact hK _ _ (Below.refl _ _) rfl))
    iterate 2 (· (obtain ⟨HB, HT⟩ := HB; obtain ⟨x0, x1, x2, x3⟩ := HB.out.x; obtain ⟨y0, y1, y2, y3⟩ := HB.out.y; obtain ⟨t0, t1, t2, t3⟩ := HT.out; (repeat (refine zya ?_; rintro _ rfl)); refine zye ?_; (try simp only [zyp]); refine Ix.goI_yes rfl rfl fun K hK => ?_; (try simp only [zyp] at hK); go_wp2_with (first | fail); exact hK _ _ (Below.refl _ _) rfl))
    (· (obtain ⟨HB, HT⟩ := HB; obtain ⟨x0, x1, x2, x3⟩ := HB.out.x; obtain ⟨y0, y1, y2, y3⟩ := HB.out.y; obtain ⟨t0, t1, t2, t3⟩ := HT.out; (repeat (refine zya ?_; rintro _ rfl)); refine zye ?_; (try simp only [zyp]); refine Ix.goI_yes rfl rfl fun K hK => ?_; (try simp only [zyp] at hK); go_wp2_with (first | (go_at_call 38; refine (CB.out _).mono ?_; rintro e wa ⟨rfl, hba⟩)); exact hK _ _ hba rfl))
    iterate 2 (· ((repeat (refine zya ?_; rintro _ rfl)); refine zye ?_; (try simp only [zyp]); refine Ix.goI_yes rfl rfl fun K hK => ?_; (try simp only [zyp] at hK); go_wp2_with (first | fail); exact hK _ _ (Below.refl _ _) rfl))
  intro vsf wf HF hdf
  refine zyv 9 0 1 ?_; rintro _ _ rfl; refine zyv 8 1 2 ?_; rintro _ _ rfl; refine zyv 7 2 3 ?_; rintro _ _ rfl; refine zyv 6 3 4 ?_; rintro _ _ rfl; refine zyv 5 4 5 ?_; rintro _ _ rfl; refine zyv 4 5 6 ?_; rintro _ _ rfl; refine zyv 3 6 7 ?_; rintro _ _ rfl; refine zyv 2 7 8 ?_; rintro _ _ rfl; refine zyv 1 8 9 ?_; rintro _ _ rfl; refine zyv 0 9 10 ?_; rintro _ _ rfl
  refine Ix.allV_nil ?_
  (try simp only [Act.put, List.setIfInBounds_toArray, List.set_cons_zero, List.set_cons_succ, List.drop_succ_cons, List.drop_zero])
  refine Ix.nil ?_
  have HF1 := HF
  clear hdf
  go_wp2
  apply Ix.wp_region 8 (fun wi => Hid (Tl w xb xs yb ys wi) ∧ Hid (Ty wi w3.heap.size T TS)) (Ix.vk [(Ix.kis _), (Ix.kis _), (Ix.kwld (fun v w' => ∃ g, v = P g ∧ Io w' g M1) (fun v w1 w2 h hb => by obtain ⟨g, e, hi⟩ := h; exact ⟨g, e, hi.below hb⟩)), (Ix.kis _), (Ix.kis _), (Ix.kwld (fun v w' => ∃ g, v = P g ∧ Io w' g M2) (fun v w1 w2 h hb => by obtain ⟨g, e, hi⟩ := h; exact ⟨g, e, hi.below hb⟩)), (Ix.ksat (fun v => ∃ C : Int, Hid (C = cmpZ M1 M2) ∧ v = .int .i64 C)), (Ix.ksat (fun v => ∃ C : Int, Hid (C = cmpZ M1 M2) ∧ v = .int .i64 C))]) (fun _ => false) (by kernel_rfl) (by kernel_rfl) (by kernel_rfl) (fun _ _ h hb => ⟨h.1.out.below hb, h.2.out.below hb⟩) (Ix.vk_keeps _) (Ix.not_al _) HF1
  case step =>
    refine zyx 7 0 1 [] (fun wi HB => ?_) <| zyx 6 1 2 [] (fun wi HB => ?_) <| zyx 5 2 3 [(0, some 71), (1, some 72)] (fun wi HB => ?_) <| zyx 4 3 4 [] (fun wi HB => ?_) <| zyx 3 4 5 [] (fun wi HB => ?_) <| zyx 2 5 6 [(3, some 74), (4, some 75)] (fun wi HB => ?_) <| zyx 1 6 7 [(2, some 73), (5, some 76)] (fun wi HB => ?_) <| zyx 0 7 8 [(6, some 77)] (fun wi HB => ?_) <| Ix.steps_nil
    (· ((repeat (refine zya ?_; rintro _ rfl)); refine zye ?_; (try simp only [zyp]); refine Ix.goI_yes rfl rfl fun K hK => ?_; (try simp only [zyp] at hK); go_wp2_with (first | fail); exact hK _ _ (Below.refl _ _) rfl))
    (· (obtain ⟨HB, HT⟩ := HB; obtain ⟨t0, t1, t2, t3⟩ := HT.out; (repeat (refine zya ?_; rintro _ rfl)); refine zye ?_; (try simp only [zyp]); refine Ix.goI_yes rfl rfl fun K hK => ?_; (try simp only [zyp] at hK); go_wp2_with (first | fail); exact hK _ _ (Below.refl _ _) rfl))
    (· (obtain ⟨HB, HT⟩ := HB; obtain ⟨t0, t1, t2, t3⟩ := HT.out; (repeat (refine zya ?_; rintro _ rfl)); refine zye ?_; (try simp only [zyp]); refine Ix.goI_yes rfl rfl fun K hK => ?_; (try simp only [zyp] at hK); go_wp2_with (first | (go_at_call 53; refine (MA.out _).mono ?_; rintro e wa ⟨ga, rfl, hga, hba, hia⟩)); exact hK _ _ hba ⟨_, rfl, hia⟩))
    (· ((repeat (refine zya ?_; rintro _ rfl)); refine zye ?_; (try simp only [zyp]); refine Ix.goI_yes rfl rfl fun K hK => ?_; (try simp only [zyp] at hK); go_wp2_with (first | fail); exact hK _ _ (Below.refl _ _) rfl))
    (· (obtain ⟨HB, HT⟩ := HB; obtain ⟨t0, t1, t2, t3⟩ := HT.out; (repeat (refine zya ?_; rintro _ rfl)); refine zye ?_; (try simp only [zyp]); refine Ix.goI_yes rfl rfl fun K hK => ?_; (try simp only [zyp] at hK); go_wp2_with (first | fail); exact hK _ _ (Below.refl _ _) rfl))
    (· (obtain ⟨HB, HT⟩ := HB; obtain ⟨t0, t1, t2, t3⟩ := HT.out; (repeat (refine zya ?_; rintro _ rfl)); refine zye ?_; (try simp only [zyp]); refine Ix.goI_yes rfl rfl fun K hK => ?_; (try simp only [zyp] at hK); go_wp2_with (first | (go_at_call 53; refine (MB.out _).mono ?_; rintro e wa ⟨ga, rfl, hga, hba, hia⟩)); exact hK _ _ hba ⟨_, rfl, hia⟩))
    (· (obtain ⟨HB, HT⟩ := HB; obtain ⟨t0, t1, t2, t3⟩ := HT.out; refine zya ?_; rintro _ ⟨g2, rfl, hg2⟩; refine zya ?_; rintro _ ⟨g5, rfl, hg5⟩; refine zye ?_; (try simp only [zyp]); refine Ix.goI_yes rfl rfl fun K hK => ?_; (try simp only [zyp] at hK); go_wp2_with (first | (go_at_call 52; refine (CC.out _ _ _ hg2 hg5).mono ?_; rintro e wa ⟨C, hca, rfl, m, rfl⟩)); exact hK _ _ (below_drewN (Below.refl _ _) _) ⟨_, hca, rfl⟩))
    (· (obtain ⟨HB, HT⟩ := HB; obtain ⟨t0, t1, t2, t3⟩ := HT.out; refine zya ?_; rintro _ ⟨c6, hc6, rfl⟩; refine zye ?_; (try simp only [zyp]); refine Ix.goI_yes rfl rfl fun K hK => ?_; (try simp only [zyp] at hK); go_wp2_with (first | fail); exact hK _ _ (Below.refl _ _) ⟨_, hc6, rfl⟩))
  intro vsf wf HF hdf
  refine zyv 7 0 1 ?_; rintro _ _ rfl; refine zyv 6 1 2 ?_; rintro _ _ rfl; refine zyv 5 2 3 ?_; rintro _ _ ⟨g2, rfl, hg2⟩; refine zyv 4 3 4 ?_; rintro _ _ rfl; refine zyv 3 4 5 ?_; rintro _ _ rfl; refine zyv 2 5 6 ?_; rintro _ _ ⟨g5, rfl, hg5⟩; refine zyv 1 6 7 ?_; rintro _ _ ⟨c6, hc6, rfl⟩; refine zyv 0 7 8 ?_; rintro _ _ ⟨c7, hc7, rfl⟩
  refine Ix.allV_nil ?_
  obtain ⟨HB, HT⟩ := HF; obtain ⟨t0, t1, t2, t3⟩ := HT.out; have HC7 := hc7; clear hc6 hc7 hg2 hg5 hdf HF1
  (try simp only [Act.put, List.setIfInBounds_toArray, List.set_cons_zero, List.set_cons_succ, List.drop_succ_cons, List.drop_zero])
  refine Ix.nil ?_
  have hz : (decide (c7 ≥ 0)) = z := by rw [HC7.out]; exact HZ.out
  clear HC7
  cases z
  · go_wp2
    go_ret2
    exact ⟨by rw [HR.out]; rfl, HB.out.ext⟩
  · go_wp2
    go_ret2
    exact ⟨by rw [HR.out]; rfl, HB.out.ext⟩
set_option maxHeartbeats 8000000 in
theorem r7binary_cmp20 (a b xb yb T p q M1 M2 : Int) (xs ys TS z : Bool) (hz : (cmpZ M1 M2 == 0) = z)
    (VX : Hid (Gives 32 #[W.ty xb xs] (.bool true))) (VY : Hid (Gives 32 #[W.ty yb ys] (.bool true))) (NP : Hid (Gives 76 #[W.ty xb xs, W.ty yb ys] (W.ty T TS)))
    (CA : Hid (Gives 38 #[.int .u64 a, W.ty xb xs, W.ty T TS] (.int .u64 p))) (CB : Hid (Gives 38 #[.int .u64 b, W.ty yb ys, W.ty T TS] (.int .u64 q)))
    (MA : Hid (∀ w : World, Calls Try.prog 53 #[.int .u64 p, W.ty T TS] w (NewIo w M1))) (MB : Hid (∀ w : World, Calls Try.prog 53 #[.int .u64 q, W.ty T TS] w (NewIo w M2)))
    (w : World) :
    Calls Try.prog 41 #[.int .i64 20, .int .u64 a, .int .u64 b, W.ty xb xs, W.ty yb ys] w (BiR (if z then 1 else 0) 0 w) := by
  have HZ := Lib.hid hz
  obtain ⟨R, hR⟩ : ∃ R : Int, R = if z then 1 else 0 := ⟨_, rfl⟩
  rw [← hR]
  have HR := Lib.hid hR
  clear hz hR
  have K0 := Lib.hid (Tl.start w xb yb xs ys)
  have tok := Lib.hid True.intro
  have CC : Hid (∀ (w : World) (g g2 : Nat), Io w g M1 → Io w g2 M2 → Calls Try.prog 52 #[P g, P g2] w fun e w' => ∃ C : Int, Hid (C = cmpZ M1 M2) ∧ e = .returned (.int .i64 C) ∧ ∃ m, w' = w.drewN m) := fun w g g2 a b =>
    (intCmp_ok g g2 M1 M2 w a b).mono fun e w' ⟨h1, h2⟩ => ⟨_, (rfl : cmpZ M1 M2 = cmpZ M1 M2), h1, h2⟩
  go_enter Try.func41, Try.ntmps41
  go_wp2_with (first | (go_at_call_of 32 (Value.agg #[Value.int IntKind.i64 xb, Value.bool xs]); have _t := tok; refine (VX.out _).mono ?_; rintro e w1 ⟨rfl, hb1⟩; have K1 := Lib.hid (K0.out.below hb1); clear hb1 tok _t; obtain ⟨x0, x1, x2, x3⟩ := K1.out.x; obtain ⟨y0, y1, y2, y3⟩ := K1.out.y) | (go_at_call 32; refine (VY.out _).mono ?_; rintro e w2 ⟨rfl, hb2⟩; have K2 := Lib.hid (K1.out.below hb2); clear hb2 x0 x1 x2 x3 y0 y1 y2 y3; obtain ⟨x0, x1, x2, x3⟩ := K2.out.x; obtain ⟨y0, y1, y2, y3⟩ := K2.out.y) | (go_at_call 76; refine (NP.out _).mono ?_; rintro e w3 ⟨rfl, hb3⟩; have K3 := Lib.hid ((K2.out.below hb3).below (Ext.alloc (Below.refl _ _) (.cells #[.int .i64 T, .bool TS] 31))); have P3 := Lib.hid (Ty.new w3 rfl T TS 31); clear hb3 x0 x1 x2 x3 y0 y1 y2 y3))
  generalize (w3.alloc (.cells #[.int .i64 T, .bool TS] 31)) = wx at *
  apply Ix.wp_region 10 (fun wi => Hid (Tl w xb xs yb ys wi) ∧ Hid (Ty wi w3.heap.size T TS)) (Ix.vk [(Ix.kis _), (Ix.kis _), (Ix.kis _), (Ix.kis (.int .u64 p)), (Ix.kis _), (Ix.kis _), (Ix.kis _), (Ix.kis (.int .u64 q)), (Ix.kis _), (Ix.kis _)]) (fun _ => false) (by kernel_rfl) (by kernel_rfl) (by kernel_rfl) (fun _ _ h hb => ⟨h.1.out.below hb, h.2.out.below hb⟩) (Ix.vk_keeps _) (Ix.not_al _) ⟨K3, P3⟩
  case step =>
    refine zyx 9 0 1 [] (fun wi HB => ?_) <| zyx 8 1 2 [] (fun wi HB => ?_) <| zyx 7 2 3 [] (fun wi HB => ?_) <| zyx 6 3 4 [(0, some 63), (1, some 64), (2, some 65)] (fun wi HB => ?_) <| zyx 5 4 5 [] (fun wi HB => ?_) <| zyx 4 5 6 [] (fun wi HB => ?_) <| zyx 3 6 7 [] (fun wi HB => ?_) <| zyx 2 7 8 [(4, some 67), (5, some 68), (6, some 69)] (fun wi HB => ?_) <| zyx 1 8 9 [(3, some 66)] (fun wi HB => ?_) <| zyx 0 9 10 [(7, some 70)] (fun wi HB => ?_) <| Ix.steps_nil
    (· ((repeat (refine zya ?_; rintro _ rfl)); refine zye ?_; (try simp only [zyp]); refine Ix.goI_yes rfl rfl fun K hK => ?_; (try simp only [zyp] at hK); go_wp2_with (first | fail); exact hK _ _ (Below.refl _ _) rfl))
    iterate 2 (· (obtain ⟨HB, HT⟩ := HB; obtain ⟨x0, x1, x2, x3⟩ := HB.out.x; obtain ⟨y0, y1, y2, y3⟩ := HB.out.y; obtain ⟨t0, t1, t2, t3⟩ := HT.out; (repeat (refine zya ?_; rintro _ rfl)); refine zye ?_; (try simp only [zyp]); refine Ix.goI_yes rfl rfl fun K hK => ?_; (try simp only [zyp] at hK); go_wp2_with (first | fail); exact hK _ _ (Below.refl _ _) rfl))
    (· (obtain ⟨HB, HT⟩ := HB; obtain ⟨x0, x1, x2, x3⟩ := HB.out.x; obtain ⟨y0, y1, y2, y3⟩ := HB.out.y; obtain ⟨t0, t1, t2, t3⟩ := HT.out; (repeat (refine zya ?_; rintro _ rfl)); refine zye ?_; (try simp only [zyp]); refine Ix.goI_yes rfl rfl fun K hK => ?_; (try simp only [zyp] at hK); go_wp2_with (first | (go_at_call_of 38 (Value.agg #[Value.int IntKind.i64 xb, Value.bool xs]); refine (CA.out _).mono ?_; rintro e wa ⟨rfl, hba⟩)); exact hK _ _ hba rfl))
    (· ((repeat (refine zya ?_; rintro _ rfl)); refine zye ?_; (try simp only [zyp]); refine Ix.goI_yes rfl rfl fun K hK => ?_; (try simp only [zyp] at hK); go_wp2_with (first | fail); exact hK _ _ (Below.refl _ _) rfl))
    iterate 2 (· (obtain ⟨HB, HT⟩ := HB; obtain ⟨x0, x1, x2, x3⟩ := HB.out.x; obtain ⟨y0, y1, y2, y3⟩ := HB.out.y; obtain ⟨t0, t1, t2, t3⟩ := HT.out; (repeat (refine zya ?_; rintro _ rfl)); refine zye ?_; (try simp only [zyp]); refine Ix.goI_yes rfl rfl fun K hK => ?_; (try simp only [zyp] at hK); go_wp2_with (first | fail); exact hK _ _ (Below.refl _ _) rfl))
    (· (obtain ⟨HB, HT⟩ := HB; obtain ⟨x0, x1, x2, x3⟩ := HB.out.x; obtain ⟨y0, y1, y2, y3⟩ := HB.out.y; obtain ⟨t0, t1, t2, t3⟩ := HT.out; (repeat (refine zya ?_; rintro _ rfl)); refine zye ?_; (try simp only [zyp]); refine Ix.goI_yes rfl rfl fun K hK => ?_; (try simp only [zyp] at hK); go_wp2_with (first | (go_at_call 38; refine (CB.out _).mono ?_; rintro e wa ⟨rfl, hba⟩)); exact hK _ _ hba rfl))
    iterate 2 (· ((repeat (refine zya ?_; rintro _ rfl)); refine zye ?_; (try simp only [zyp]); refine Ix.goI_yes rfl rfl fun K hK => ?_; (try simp only [zyp] at hK); go_wp2_with (first | fail); exact hK _ _ (Below.refl _ _) rfl))
  intro vsf wf HF hdf
  refine zyv 9 0 1 ?_; rintro _ _ rfl; refine zyv 8 1 2 ?_; rintro _ _ rfl; refine zyv 7 2 3 ?_; rintro _ _ rfl; refine zyv 6 3 4 ?_; rintro _ _ rfl; refine zyv 5 4 5 ?_; rintro _ _ rfl; refine zyv 4 5 6 ?_; rintro _ _ rfl; refine zyv 3 6 7 ?_; rintro _ _ rfl; refine zyv 2 7 8 ?_; rintro _ _ rfl; refine zyv 1 8 9 ?_; rintro _ _ rfl; refine zyv 0 9 10 ?_; rintro _ _ rfl
  refine Ix.allV_nil ?_
  (try simp only [Act.put, List.setIfInBounds_toArray, List.set_cons_zero, List.set_cons_succ, List.drop_succ_cons, List.drop_zero])
  refine Ix.nil ?_
  have HF1 := HF
  clear hdf
  go_wp2
  apply Ix.wp_region 8 (fun wi => Hid (Tl w xb xs yb ys wi) ∧ Hid (Ty wi w3.heap.size T TS)) (Ix.vk [(Ix.kis _), (Ix.kis _), (Ix.kwld (fun v w' => ∃ g, v = P g ∧ Io w' g M1) (fun v w1 w2 h hb => by obtain ⟨g, e, hi⟩ := h; exact ⟨g, e, hi.below hb⟩)), (Ix.kis _), (Ix.kis _), (Ix.kwld (fun v w' => ∃ g, v = P g ∧ Io w' g M2) (fun v w1 w2 h hb => by obtain ⟨g, e, hi⟩ := h; exact ⟨g, e, hi.below hb⟩)), (Ix.ksat (fun v => ∃ C : Int, Hid (C = cmpZ M1 M2) ∧ v = .int .i64 C)), (Ix.ksat (fun v => ∃ C : Int, Hid (C = cmpZ M1 M2) ∧ v = .int .i64 C))]) (fun _ => false) (by kernel_rfl) (by kernel_rfl) (by kernel_rfl) (fun _ _ h hb => ⟨h.1.out.below hb, h.2.out.below hb⟩) (Ix.vk_keeps _) (Ix.not_al _) HF1
  case step =>
    refine zyx 7 0 1 [] (fun wi HB => ?_) <| zyx 6 1 2 [] (fun wi HB => ?_) <| zyx 5 2 3 [(0, some 71), (1, some 72)] (fun wi HB => ?_) <| zyx 4 3 4 [] (fun wi HB => ?_) <| zyx 3 4 5 [] (fun wi HB => ?_) <| zyx 2 5 6 [(3, some 74), (4, some 75)] (fun wi HB => ?_) <| zyx 1 6 7 [(2, some 73), (5, some 76)] (fun wi HB => ?_) <| zyx 0 7 8 [(6, some 77)] (fun wi HB => ?_) <| Ix.steps_nil
    (· ((repeat (refine zya ?_; rintro _ rfl)); refine zye ?_; (try simp only [zyp]); refine Ix.goI_yes rfl rfl fun K hK => ?_; (try simp only [zyp] at hK); go_wp2_with (first | fail); exact hK _ _ (Below.refl _ _) rfl))
    (· (obtain ⟨HB, HT⟩ := HB; obtain ⟨t0, t1, t2, t3⟩ := HT.out; (repeat (refine zya ?_; rintro _ rfl)); refine zye ?_; (try simp only [zyp]); refine Ix.goI_yes rfl rfl fun K hK => ?_; (try simp only [zyp] at hK); go_wp2_with (first | fail); exact hK _ _ (Below.refl _ _) rfl))
    (· (obtain ⟨HB, HT⟩ := HB; obtain ⟨t0, t1, t2, t3⟩ := HT.out; (repeat (refine zya ?_; rintro _ rfl)); refine zye ?_; (try simp only [zyp]); refine Ix.goI_yes rfl rfl fun K hK => ?_; (try simp only [zyp] at hK); go_wp2_with (first | (go_at_call 53; refine (MA.out _).mono ?_; rintro e wa ⟨ga, rfl, hga, hba, hia⟩)); exact hK _ _ hba ⟨_, rfl, hia⟩))
    (· ((repeat (refine zya ?_; rintro _ rfl)); refine zye ?_; (try simp only [zyp]); refine Ix.goI_yes rfl rfl fun K hK => ?_; (try simp only [zyp] at hK); go_wp2_with (first | fail); exact hK _ _ (Below.refl _ _) rfl))
    (· (obtain ⟨HB, HT⟩ := HB; obtain ⟨t0, t1, t2, t3⟩ := HT.out; (repeat (refine zya ?_; rintro _ rfl)); refine zye ?_; (try simp only [zyp]); refine Ix.goI_yes rfl rfl fun K hK => ?_; (try simp only [zyp] at hK); go_wp2_with (first | fail); exact hK _ _ (Below.refl _ _) rfl))
    (· (obtain ⟨HB, HT⟩ := HB; obtain ⟨t0, t1, t2, t3⟩ := HT.out; (repeat (refine zya ?_; rintro _ rfl)); refine zye ?_; (try simp only [zyp]); refine Ix.goI_yes rfl rfl fun K hK => ?_; (try simp only [zyp] at hK); go_wp2_with (first | (go_at_call 53; refine (MB.out _).mono ?_; rintro e wa ⟨ga, rfl, hga, hba, hia⟩)); exact hK _ _ hba ⟨_, rfl, hia⟩))
    (· (obtain ⟨HB, HT⟩ := HB; obtain ⟨t0, t1, t2, t3⟩ := HT.out; refine zya ?_; rintro _ ⟨g2, rfl, hg2⟩; refine zya ?_; rintro _ ⟨g5, rfl, hg5⟩; refine zye ?_; (try simp only [zyp]); refine Ix.goI_yes rfl rfl fun K hK => ?_; (try simp only [zyp] at hK); go_wp2_with (first | (go_at_call 52; refine (CC.out _ _ _ hg2 hg5).mono ?_; rintro e wa ⟨C, hca, rfl, m, rfl⟩)); exact hK _ _ (below_drewN (Below.refl _ _) _) ⟨_, hca, rfl⟩))
    (· (obtain ⟨HB, HT⟩ := HB; obtain ⟨t0, t1, t2, t3⟩ := HT.out; refine zya ?_; rintro _ ⟨c6, hc6, rfl⟩; refine zye ?_; (try simp only [zyp]); refine Ix.goI_yes rfl rfl fun K hK => ?_; (try simp only [zyp] at hK); go_wp2_with (first | fail); exact hK _ _ (Below.refl _ _) ⟨_, hc6, rfl⟩))
  intro vsf wf HF hdf
  refine zyv 7 0 1 ?_; rintro _ _ rfl; refine zyv 6 1 2 ?_; rintro _ _ rfl; refine zyv 5 2 3 ?_; rintro _ _ ⟨g2, rfl, hg2⟩; refine zyv 4 3 4 ?_; rintro _ _ rfl; refine zyv 3 4 5 ?_; rintro _ _ rfl; refine zyv 2 5 6 ?_; rintro _ _ ⟨g5, rfl, hg5⟩; refine zyv 1 6 7 ?_; rintro _ _ ⟨c6, hc6, rfl⟩; refine zyv 0 7 8 ?_; rintro _ _ ⟨c7, hc7, rfl⟩
  refine Ix.allV_nil ?_
  obtain ⟨HB, HT⟩ := HF; obtain ⟨t0, t1, t2, t3⟩ := HT.out; have HC7 := hc7; clear hc6 hc7 hg2 hg5 hdf HF1
  (try simp only [Act.put, List.setIfInBounds_toArray, List.set_cons_zero, List.set_cons_succ, List.drop_succ_cons, List.drop_zero])
  refine Ix.nil ?_
  have hz : (c7 == 0) = z := by rw [HC7.out]; exact HZ.out
  clear HC7
  cases z
  · go_wp2
    go_ret2
    exact ⟨by rw [HR.out]; rfl, HB.out.ext⟩
  · go_wp2
    go_ret2
    exact ⟨by rw [HR.out]; rfl, HB.out.ext⟩
set_option maxHeartbeats 8000000 in
theorem r7binary_cmp21 (a b xb yb T p q M1 M2 : Int) (xs ys TS z : Bool) (hz : (cmpZ M1 M2 != 0) = z)
    (VX : Hid (Gives 32 #[W.ty xb xs] (.bool true))) (VY : Hid (Gives 32 #[W.ty yb ys] (.bool true))) (NP : Hid (Gives 76 #[W.ty xb xs, W.ty yb ys] (W.ty T TS)))
    (CA : Hid (Gives 38 #[.int .u64 a, W.ty xb xs, W.ty T TS] (.int .u64 p))) (CB : Hid (Gives 38 #[.int .u64 b, W.ty yb ys, W.ty T TS] (.int .u64 q)))
    (MA : Hid (∀ w : World, Calls Try.prog 53 #[.int .u64 p, W.ty T TS] w (NewIo w M1))) (MB : Hid (∀ w : World, Calls Try.prog 53 #[.int .u64 q, W.ty T TS] w (NewIo w M2)))
    (w : World) :
    Calls Try.prog 41 #[.int .i64 21, .int .u64 a, .int .u64 b, W.ty xb xs, W.ty yb ys] w (BiR (if z then 1 else 0) 0 w) := by
  have HZ := Lib.hid hz
  obtain ⟨R, hR⟩ : ∃ R : Int, R = if z then 1 else 0 := ⟨_, rfl⟩
  rw [← hR]
  have HR := Lib.hid hR
  clear hz hR
  have K0 := Lib.hid (Tl.start w xb yb xs ys)
  have tok := Lib.hid True.intro
  have CC : Hid (∀ (w : World) (g g2 : Nat), Io w g M1 → Io w g2 M2 → Calls Try.prog 52 #[P g, P g2] w fun e w' => ∃ C : Int, Hid (C = cmpZ M1 M2) ∧ e = .returned (.int .i64 C) ∧ ∃ m, w' = w.drewN m) := fun w g g2 a b =>
    (intCmp_ok g g2 M1 M2 w a b).mono fun e w' ⟨h1, h2⟩ => ⟨_, (rfl : cmpZ M1 M2 = cmpZ M1 M2), h1, h2⟩
  go_enter Try.func41, Try.ntmps41
  go_wp2_with (first | (go_at_call_of 32 (Value.agg #[Value.int IntKind.i64 xb, Value.bool xs]); have _t := tok; refine (VX.out _).mono ?_; rintro e w1 ⟨rfl, hb1⟩; have K1 := Lib.hid (K0.out.below hb1); clear hb1 tok _t; obtain ⟨x0, x1, x2, x3⟩ := K1.out.x; obtain ⟨y0, y1, y2, y3⟩ := K1.out.y) | (go_at_call 32; refine (VY.out _).mono ?_; rintro e w2 ⟨rfl, hb2⟩; have K2 := Lib.hid (K1.out.below hb2); clear hb2 x0 x1 x2 x3 y0 y1 y2 y3; obtain ⟨x0, x1, x2, x3⟩ := K2.out.x; obtain ⟨y0, y1, y2, y3⟩ := K2.out.y) | (go_at_call 76; refine (NP.out _).mono ?_; rintro e w3 ⟨rfl, hb3⟩; have K3 := Lib.hid ((K2.out.below hb3).below (Ext.alloc (Below.refl _ _) (.cells #[.int .i64 T, .bool TS] 31))); have P3 := Lib.hid (Ty.new w3 rfl T TS 31); clear hb3 x0 x1 x2 x3 y0 y1 y2 y3))
  generalize (w3.alloc (.cells #[.int .i64 T, .bool TS] 31)) = wx at *
  apply Ix.wp_region 10 (fun wi => Hid (Tl w xb xs yb ys wi) ∧ Hid (Ty wi w3.heap.size T TS)) (Ix.vk [(Ix.kis _), (Ix.kis _), (Ix.kis _), (Ix.kis (.int .u64 p)), (Ix.kis _), (Ix.kis _), (Ix.kis _), (Ix.kis (.int .u64 q)), (Ix.kis _), (Ix.kis _)]) (fun _ => false) (by kernel_rfl) (by kernel_rfl) (by kernel_rfl) (fun _ _ h hb => ⟨h.1.out.below hb, h.2.out.below hb⟩) (Ix.vk_keeps _) (Ix.not_al _) ⟨K3, P3⟩
  case step =>
    refine zyx 9 0 1 [] (fun wi HB => ?_) <| zyx 8 1 2 [] (fun wi HB => ?_) <| zyx 7 2 3 [] (fun wi HB => ?_) <| zyx 6 3 4 [(0, some 63), (1, some 64), (2, some 65)] (fun wi HB => ?_) <| zyx 5 4 5 [] (fun wi HB => ?_) <| zyx 4 5 6 [] (fun wi HB => ?_) <| zyx 3 6 7 [] (fun wi HB => ?_) <| zyx 2 7 8 [(4, some 67), (5, some 68), (6, some 69)] (fun wi HB => ?_) <| zyx 1 8 9 [(3, some 66)] (fun wi HB => ?_) <| zyx 0 9 10 [(7, some 70)] (fun wi HB => ?_) <| Ix.steps_nil
    (· ((repeat (refine zya ?_; rintro _ rfl)); refine zye ?_; (try simp only [zyp]); refine Ix.goI_yes rfl rfl fun K hK => ?_; (try simp only [zyp] at hK); go_wp2_with (first | fail); exact hK _ _ (Below.refl _ _) rfl))
    iterate 2 (· (obtain ⟨HB, HT⟩ := HB; obtain ⟨x0, x1, x2, x3⟩ := HB.out.x; obtain ⟨y0, y1, y2, y3⟩ := HB.out.y; obtain ⟨t0, t1, t2, t3⟩ := HT.out; (repeat (refine zya ?_; rintro _ rfl)); refine zye ?_; (try simp only [zyp]); refine Ix.goI_yes rfl rfl fun K hK => ?_; (try simp only [zyp] at hK); go_wp2_with (first | fail); exact hK _ _ (Below.refl _ _) rfl))
    (· (obtain ⟨HB, HT⟩ := HB; obtain ⟨x0, x1, x2, x3⟩ := HB.out.x; obtain ⟨y0, y1, y2, y3⟩ := HB.out.y; obtain ⟨t0, t1, t2, t3⟩ := HT.out; (repeat (refine zya ?_; rintro _ rfl)); refine zye ?_; (try simp only [zyp]); refine Ix.goI_yes rfl rfl fun K hK => ?_; (try simp only [zyp] at hK); go_wp2_with (first | (go_at_call_of 38 (Value.agg #[Value.int IntKind.i64 xb, Value.bool xs]); refine (CA.out _).mono ?_; rintro e wa ⟨rfl, hba⟩)); exact hK _ _ hba rfl))
    (· ((repeat (refine zya ?_; rintro _ rfl)); refine zye ?_; (try simp only [zyp]); refine Ix.goI_yes rfl rfl fun K hK => ?_; (try simp only [zyp] at hK); go_wp2_with (first | fail); exact hK _ _ (Below.refl _ _) rfl))
    iterate 2 (· (obtain ⟨HB, HT⟩ := HB; obtain ⟨x0, x1, x2, x3⟩ := HB.out.x; obtain ⟨y0, y1, y2, y3⟩ := HB.out.y; obtain ⟨t0, t1, t2, t3⟩ := HT.out; (repeat (refine zya ?_; rintro _ rfl)); refine zye ?_; (try simp only [zyp]); refine Ix.goI_yes rfl rfl fun K hK => ?_; (try simp only [zyp] at hK); go_wp2_with (first | fail); exact hK _ _ (Below.refl _ _) rfl))
    (· (obtain ⟨HB, HT⟩ := HB; obtain ⟨x0, x1, x2, x3⟩ := HB.out.x; obtain ⟨y0, y1, y2, y3⟩ := HB.out.y; obtain ⟨t0, t1, t2, t3⟩ := HT.out; (repeat (refine zya ?_; rintro _ rfl)); refine zye ?_; (try simp only [zyp]); refine Ix.goI_yes rfl rfl fun K hK => ?_; (try simp only [zyp] at hK); go_wp2_with (first | (go_at_call 38; refine (CB.out _).mono ?_; rintro e wa ⟨rfl, hba⟩)); exact hK _ _ hba rfl))
    iterate 2 (· ((repeat (refine zya ?_; rintro _ rfl)); refine zye ?_; (try simp only [zyp]); refine Ix.goI_yes rfl rfl fun K hK => ?_; (try simp only [zyp] at hK); go_wp2_with (first | fail); exact hK _ _ (Below.refl _ _) rfl))
  intro vsf wf HF hdf
  refine zyv 9 0 1 ?_; rintro _ _ rfl; refine zyv 8 1 2 ?_; rintro _ _ rfl; refine zyv 7 2 3 ?_; rintro _ _ rfl; refine zyv 6 3 4 ?_; rintro _ _ rfl; refine zyv 5 4 5 ?_; rintro _ _ rfl; refine zyv 4 5 6 ?_; rintro _ _ rfl; refine zyv 3 6 7 ?_; rintro _ _ rfl; refine zyv 2 7 8 ?_; rintro _ _ rfl; refine zyv 1 8 9 ?_; rintro _ _ rfl; refine zyv 0 9 10 ?_; rintro _ _ rfl
  refine Ix.allV_nil ?_
  (try simp only [Act.put, List.setIfInBounds_toArray, List.set_cons_zero, List.set_cons_succ, List.drop_succ_cons, List.drop_zero])
  refine Ix.nil ?_
  have HF1 := HF
  clear hdf
  go_wp2
  apply Ix.wp_region 8 (fun wi => Hid (Tl w xb xs yb ys wi) ∧ Hid (Ty wi w3.heap.size T TS)) (Ix.vk [(Ix.kis _), (Ix.kis _), (Ix.kwld (fun v w' => ∃ g, v = P g ∧ Io w' g M1) (fun v w1 w2 h hb => by obtain ⟨g, e, hi⟩ := h; exact ⟨g, e, hi.below hb⟩)), (Ix.kis _), (Ix.kis _), (Ix.kwld (fun v w' => ∃ g, v = P g ∧ Io w' g M2) (fun v w1 w2 h hb => by obtain ⟨g, e, hi⟩ := h; exact ⟨g, e, hi.below hb⟩)), (Ix.ksat (fun v => ∃ C : Int, Hid (C = cmpZ M1 M2) ∧ v = .int .i64 C)), (Ix.ksat (fun v => ∃ C : Int, Hid (C = cmpZ M1 M2) ∧ v = .int .i64 C))]) (fun _ => false) (by kernel_rfl) (by kernel_rfl) (by kernel_rfl) (fun _ _ h hb => ⟨h.1.out.below hb, h.2.out.below hb⟩) (Ix.vk_keeps _) (Ix.not_al _) HF1
  case step =>
    refine zyx 7 0 1 [] (fun wi HB => ?_) <| zyx 6 1 2 [] (fun wi HB => ?_) <| zyx 5 2 3 [(0, some 71), (1, some 72)] (fun wi HB => ?_) <| zyx 4 3 4 [] (fun wi HB => ?_) <| zyx 3 4 5 [] (fun wi HB => ?_) <| zyx 2 5 6 [(3, some 74), (4, some 75)] (fun wi HB => ?_) <| zyx 1 6 7 [(2, some 73), (5, some 76)] (fun wi HB => ?_) <| zyx 0 7 8 [(6, some 77)] (fun wi HB => ?_) <| Ix.steps_nil
    (· ((repeat (refine zya ?_; rintro _ rfl)); refine zye ?_; (try simp only [zyp]); refine Ix.goI_yes rfl rfl fun K hK => ?_; (try simp only [zyp] at hK); go_wp2_with (first | fail); exact hK _ _ (Below.refl _ _) rfl))
    (· (obtain ⟨HB, HT⟩ := HB; obtain ⟨t0, t1, t2, t3⟩ := HT.out; (repeat (refine zya ?_; rintro _ rfl)); refine zye ?_; (try simp only [zyp]); refine Ix.goI_yes rfl rfl fun K hK => ?_; (try simp only [zyp] at hK); go_wp2_with (first | fail); exact hK _ _ (Below.refl _ _) rfl))
    (· (obtain ⟨HB, HT⟩ := HB; obtain ⟨t0, t1, t2, t3⟩ := HT.out; (repeat (refine zya ?_; rintro _ rfl)); refine zye ?_; (try simp only [zyp]); refine Ix.goI_yes rfl rfl fun K hK => ?_; (try simp only [zyp] at hK); go_wp2_with (first | (go_at_call 53; refine (MA.out _).mono ?_; rintro e wa ⟨ga, rfl, hga, hba, hia⟩)); exact hK _ _ hba ⟨_, rfl, hia⟩))
    (· ((repeat (refine zya ?_; rintro _ rfl)); refine zye ?_; (try simp only [zyp]); refine Ix.goI_yes rfl rfl fun K hK => ?_; (try simp only [zyp] at hK); go_wp2_with (first | fail); exact hK _ _ (Below.refl _ _) rfl))
    (· (obtain ⟨HB, HT⟩ := HB; obtain ⟨t0, t1, t2, t3⟩ := HT.out; (repeat (refine zya ?_; rintro _ rfl)); refine zye ?_; (try simp only [zyp]); refine Ix.goI_yes rfl rfl fun K hK => ?_; (try simp only [zyp] at hK); go_wp2_with (first | fail); exact hK _ _ (Below.refl _ _) rfl))
    (· (obtain ⟨HB, HT⟩ := HB; obtain ⟨t0, t1, t2, t3⟩ := HT.out; (repeat (refine zya ?_; rintro _ rfl)); refine zye ?_; (try simp only [zyp]); refine Ix.goI_yes rfl rfl fun K hK => ?_; (try simp only [zyp] at hK); go_wp2_with (first | (go_at_call 53; refine (MB.out _).mono ?_; rintro e wa ⟨ga, rfl, hga, hba, hia⟩)); exact hK _ _ hba ⟨_, rfl, hia⟩))
    (· (obtain ⟨HB, HT⟩ := HB; obtain ⟨t0, t1, t2, t3⟩ := HT.out; refine zya ?_; rintro _ ⟨g2, rfl, hg2⟩; refine zya ?_; rintro _ ⟨g5, rfl, hg5⟩; refine zye ?_; (try simp only [zyp]); refine Ix.goI_yes rfl rfl fun K hK => ?_; (try simp only [zyp] at hK); go_wp2_with (first | (go_at_call 52; refine (CC.out _ _ _ hg2 hg5).mono ?_; rintro e wa ⟨C, hca, rfl, m, rfl⟩)); exact hK _ _ (below_drewN (Below.refl _ _) _) ⟨_, hca, rfl⟩))
    (· (obtain ⟨HB, HT⟩ := HB; obtain ⟨t0, t1, t2, t3⟩ := HT.out; refine zya ?_; rintro _ ⟨c6, hc6, rfl⟩; refine zye ?_; (try simp only [zyp]); refine Ix.goI_yes rfl rfl fun K hK => ?_; (try simp only [zyp] at hK); go_wp2_with (first | fail); exact hK _ _ (Below.refl _ _) ⟨_, hc6, rfl⟩))
  intro vsf wf HF hdf
  refine zyv 7 0 1 ?_; rintro _ _ rfl; refine zyv 6 1 2 ?_; rintro _ _ rfl; refine zyv 5 2 3 ?_; rintro _ _ ⟨g2, rfl, hg2⟩; refine zyv 4 3 4 ?_; rintro _ _ rfl; refine zyv 3 4 5 ?_; rintro _ _ rfl; refine zyv 2 5 6 ?_; rintro _ _ ⟨g5, rfl, hg5⟩; refine zyv 1 6 7 ?_; rintro _ _ ⟨c6, hc6, rfl⟩; refine zyv 0 7 8 ?_; rintro _ _ ⟨c7, hc7, rfl⟩
  refine Ix.allV_nil ?_
  obtain ⟨HB, HT⟩ := HF; obtain ⟨t0, t1, t2, t3⟩ := HT.out; have HC7 := hc7; clear hc6 hc7 hg2 hg5 hdf HF1
  (try simp only [Act.put, List.setIfInBounds_toArray, List.set_cons_zero, List.set_cons_succ, List.drop_succ_cons, List.drop_zero])
  refine Ix.nil ?_
  have hz : (c7 != 0) = z := by rw [HC7.out]; exact HZ.out
  clear HC7
  cases z
  · go_wp2
    go_ret2
    exact ⟨by rw [HR.out]; rfl, HB.out.ext⟩
  · go_wp2
    go_ret2
    exact ⟨by rw [HR.out]; rfl, HB.out.ext⟩
end Go.Proofs.Ytkmcniaaecijdaa
namespace Go.Proofs.Ytkmcniaaecijdaa
open Go.RowKit Go.Maps
set_option linter.unusedVariables false
set_option linter.unusedSimpArgs false
set_option maxRecDepth 100000
set_option maxHeartbeats 8000000 in
theorem r7binary_bit22 (a b xb yb T M1 M2 : Int) (p q : Nat) (xs ys TS : Bool) (hp : p < 18446744073709551616) (hq : q < 18446744073709551616)
    (VX : Hid (Gives 32 #[W.ty xb xs] (.bool true))) (VY : Hid (Gives 32 #[W.ty yb ys] (.bool true))) (NP : Hid (Gives 76 #[W.ty xb xs, W.ty yb ys] (W.ty T TS)))
    (CA : Hid (Gives 38 #[.int .u64 a, W.ty xb xs, W.ty T TS] (.int .u64 p))) (CB : Hid (Gives 38 #[.int .u64 b, W.ty yb ys, W.ty T TS] (.int .u64 q)))
    (MA : Hid (∀ w : World, Calls Try.prog 53 #[.int .u64 p, W.ty T TS] w (NewIo w M1))) (MB : Hid (∀ w : World, Calls Try.prog 53 #[.int .u64 q, W.ty T TS] w (NewIo w M2)))
    (w : World) :
    Calls Try.prog 41 #[.int .i64 22, .int .u64 a, .int .u64 b, W.ty xb xs, W.ty yb ys] w (BiR ((p &&& q : Nat) : Int) 0 w) := by
  have WP : Hid (∀ w : World, Calls Try.prog 79 #[.int .u64 (p : Int)] w (NewIo w (p : Int))) := fun w => whole_ok (p : Int) (by omega) (by omega) w
  have WQ : Hid (∀ w : World, Calls Try.prog 79 #[.int .u64 (q : Int)] w (NewIo w (q : Int))) := fun w => whole_ok (q : Int) (by omega) (by omega) w
  have CO : Hid (∀ (w : World) (g g1 g2 : Nat), Io w g 0 → Io w g1 (p : Int) → Io w g2 (q : Int) → Calls Try.prog 78 #[P g, P g1, P g2] w fun e w' => e = .returned (P g) ∧ Moved (fun k => k = g) w w' ∧ Io w' g ((p &&& q : Nat) : Int)) := fun w g g1 g2 h h1 h2 => intAnd_ok g g1 g2 p q 0 hp hq w h h1 h2
  have hlt : (p &&& q) < 18446744073709551616 := Nat.and_lt_two_pow (n := 64) _ hq
  obtain ⟨R, hR⟩ : ∃ R : Nat, R = (p &&& q) := ⟨_, rfl⟩
  rw [← hR] at CO hlt ⊢
  have CU : Hid (∀ (w : World) (g : Nat), Io w g (R : Int) → Calls Try.prog 82 #[P g] w fun e w' => e = .returned (.int .u64 (R : Int)) ∧ w = w') := fun w g h => by
    have := uint64_ok g _ w h
    rwa [Int.natAbs_natCast, Nat.mod_eq_of_lt hlt] at this
  obtain ⟨pz, hpz⟩ : ∃ z : Int, z = (p : Int) := ⟨_, rfl⟩
  obtain ⟨qz, hqz⟩ : ∃ z : Int, z = (q : Int) := ⟨_, rfl⟩
  obtain ⟨rz, hrz⟩ : ∃ z : Int, z = (R : Int) := ⟨_, rfl⟩
  rw [← hpz] at CA MA WP CO
  rw [← hqz] at CB MB WQ CO
  rw [← hrz] at CO CU ⊢
  have HA : Hid (∀ w0 : World, Io (w0.alloc (.cells #[.bool false, .slice none 0 0] 96)) w0.heap.size 0) := fun w0 => Io.new w0
  clear hR hpz hqz hrz hp hq hlt
  have K0 := Lib.hid (Tl.start w xb yb xs ys)
  have tok := Lib.hid True.intro
  have CC : Hid (∀ (w : World) (g g2 : Nat), Io w g M1 → Io w g2 M2 → Calls Try.prog 52 #[P g, P g2] w fun e w' => ∃ C : Int, Hid (C = cmpZ M1 M2) ∧ e = .returned (.int .i64 C) ∧ ∃ m, w' = w.drewN m) := fun w g g2 a b =>
    (intCmp_ok g g2 M1 M2 w a b).mono fun e w' ⟨h1, h2⟩ => ⟨_, (rfl : cmpZ M1 M2 = cmpZ M1 M2), h1, h2⟩
  go_enter Try.func41, Try.ntmps41
  go_wp2_with (first | (go_at_call_of 32 (Value.agg #[Value.int IntKind.i64 xb, Value.bool xs]); have _t := tok; refine (VX.out _).mono ?_; rintro e w1 ⟨rfl, hb1⟩; have K1 := Lib.hid (K0.out.below hb1); clear hb1 tok _t; obtain ⟨x0, x1, x2, x3⟩ := K1.out.x; obtain ⟨y0, y1, y2, y3⟩ := K1.out.y) | (go_at_call 32; refine (VY.out _).mono ?_; rintro e w2 ⟨rfl, hb2⟩; have K2 := Lib.hid (K1.out.below hb2); clear hb2 x0 x1 x2 x3 y0 y1 y2 y3; obtain ⟨x0, x1, x2, x3⟩ := K2.out.x; obtain ⟨y0, y1, y2, y3⟩ := K2.out.y) | (go_at_call 76; refine (NP.out _).mono ?_; rintro e w3 ⟨rfl, hb3⟩; have K3 := Lib.hid ((K2.out.below hb3).below (Ext.alloc (Below.refl _ _) (.cells #[.int .i64 T, .bool TS] 31))); have P3 := Lib.hid (Ty.new w3 rfl T TS 31); clear hb3 x0 x1 x2 x3 y0 y1 y2 y3))
  generalize (w3.alloc (.cells #[.int .i64 T, .bool TS] 31)) = wx at *
  apply Ix.wp_region 10 (fun wi => Hid (Tl w xb xs yb ys wi) ∧ Hid (Ty wi w3.heap.size T TS)) (Ix.vk [(Ix.kis _), (Ix.kis _), (Ix.kis _), (Ix.kis (.int .u64 pz)), (Ix.kis _), (Ix.kis _), (Ix.kis _), (Ix.kis (.int .u64 qz)), (Ix.kis _), (Ix.kis _)]) (fun _ => false) (by kernel_rfl) (by kernel_rfl) (by kernel_rfl) (fun _ _ h hb => ⟨h.1.out.below hb, h.2.out.below hb⟩) (Ix.vk_keeps _) (Ix.not_al _) ⟨K3, P3⟩
  case step =>
    refine zyx 9 0 1 [] (fun wi HB => ?_) <| zyx 8 1 2 [] (fun wi HB => ?_) <| zyx 7 2 3 [] (fun wi HB => ?_) <| zyx 6 3 4 [(0, some 63), (1, some 64), (2, some 65)] (fun wi HB => ?_) <| zyx 5 4 5 [] (fun wi HB => ?_) <| zyx 4 5 6 [] (fun wi HB => ?_) <| zyx 3 6 7 [] (fun wi HB => ?_) <| zyx 2 7 8 [(4, some 67), (5, some 68), (6, some 69)] (fun wi HB => ?_) <| zyx 1 8 9 [(3, some 66)] (fun wi HB => ?_) <| zyx 0 9 10 [(7, some 70)] (fun wi HB => ?_) <| Ix.steps_nil
    (· ((repeat (refine zya ?_; rintro _ rfl)); refine zye ?_; (try simp only [zyp]); refine Ix.goI_yes rfl rfl fun K hK => ?_; (try simp only [zyp] at hK); go_wp2_with (first | fail); exact hK _ _ (Below.refl _ _) rfl))
    iterate 2 (· (obtain ⟨HB, HT⟩ := HB; obtain ⟨x0, x1, x2, x3⟩ := HB.out.x; obtain ⟨y0, y1, y2, y3⟩ := HB.out.y; obtain ⟨t0, t1, t2, t3⟩ := HT.out; (repeat (refine zya ?_; rintro _ rfl)); refine zye ?_; (try simp only [zyp]); refine Ix.goI_yes rfl rfl fun K hK => ?_; (try simp only [zyp] at hK); go_wp2_with (first | fail); exact hK _ _ (Below.refl _ _) rfl))
    (· (obtain ⟨HB, HT⟩ := HB; obtain ⟨x0, x1, x2, x3⟩ := HB.out.x; obtain ⟨y0, y1, y2, y3⟩ := HB.out.y; obtain ⟨t0, t1, t2, t3⟩ := HT.out; (repeat (refine zya ?_; rintro _ rfl)); refine zye ?_; (try simp only [zyp]); refine Ix.goI_yes rfl rfl fun K hK => ?_; (try simp only [zyp] at hK); go_wp2_with (first | (go_at_call_of 38 (Value.agg #[Value.int IntKind.i64 xb, Value.bool xs]); refine (CA.out _).mono ?_; rintro e wa ⟨rfl, hba⟩)); exact hK _ _ hba rfl))
    (· ((repeat (refine zya ?_; rintro _ rfl)); refine zye ?_; (try simp only [zyp]); refine Ix.goI_yes rfl rfl fun K hK => ?_; (try simp only [zyp] at hK); go_wp2_with (first | fail); exact hK _ _ (Below.refl _ _) rfl))
    iterate 2 (· (obtain ⟨HB, HT⟩ := HB; obtain ⟨x0, x1, x2, x3⟩ := HB.out.x; obtain ⟨y0, y1, y2, y3⟩ := HB.out.y; obtain ⟨t0, t1, t2, t3⟩ := HT.out; (repeat (refine zya ?_; rintro _ rfl)); refine zye ?_; (try simp only [zyp]); refine Ix.goI_yes rfl rfl fun K hK => ?_; (try simp only [zyp] at hK); go_wp2_with (first | fail); exact hK _ _ (Below.refl _ _) rfl))
    (· (obtain ⟨HB, HT⟩ := HB; obtain ⟨x0, x1, x2, x3⟩ := HB.out.x; obtain ⟨y0, y1, y2, y3⟩ := HB.out.y; obtain ⟨t0, t1, t2, t3⟩ := HT.out; (repeat (refine zya ?_; rintro _ rfl)); refine zye ?_; (try simp only [zyp]); refine Ix.goI_yes rfl rfl fun K hK => ?_; (try simp only [zyp] at hK); go_wp2_with (first | (go_at_call 38; refine (CB.out _).mono ?_; rintro e wa ⟨rfl, hba⟩)); exact hK _ _ hba rfl))
    iterate 2 (· ((repeat (refine zya ?_; rintro _ rfl)); refine zye ?_; (try simp only [zyp]); refine Ix.goI_yes rfl rfl fun K hK => ?_; (try simp only [zyp] at hK); go_wp2_with (first | fail); exact hK _ _ (Below.refl _ _) rfl))
  intro vsf wf HF hdf
  refine zyv 9 0 1 ?_; rintro _ _ rfl; refine zyv 8 1 2 ?_; rintro _ _ rfl; refine zyv 7 2 3 ?_; rintro _ _ rfl; refine zyv 6 3 4 ?_; rintro _ _ rfl; refine zyv 5 4 5 ?_; rintro _ _ rfl; refine zyv 4 5 6 ?_; rintro _ _ rfl; refine zyv 3 6 7 ?_; rintro _ _ rfl; refine zyv 2 7 8 ?_; rintro _ _ rfl; refine zyv 1 8 9 ?_; rintro _ _ rfl; refine zyv 0 9 10 ?_; rintro _ _ rfl
  refine Ix.allV_nil ?_
  (try simp only [Act.put, List.setIfInBounds_toArray, List.set_cons_zero, List.set_cons_succ, List.drop_succ_cons, List.drop_zero])
  refine Ix.nil ?_
  have HF1 := HF
  clear hdf
  go_wp2
  apply Ix.wp_region 8 (fun wi => Hid (Tl w xb xs yb ys wi) ∧ Hid (Ty wi w3.heap.size T TS)) (Ix.vk [(Ix.kis _), (Ix.kis _), (Ix.kwld (fun v w' => ∃ g, v = P g ∧ Io w' g M1) (fun v w1 w2 h hb => by obtain ⟨g, e, hi⟩ := h; exact ⟨g, e, hi.below hb⟩)), (Ix.kis _), (Ix.kis _), (Ix.kwld (fun v w' => ∃ g, v = P g ∧ Io w' g M2) (fun v w1 w2 h hb => by obtain ⟨g, e, hi⟩ := h; exact ⟨g, e, hi.below hb⟩)), (Ix.ksat (fun v => ∃ C : Int, Hid (C = cmpZ M1 M2) ∧ v = .int .i64 C)), (Ix.ksat (fun v => ∃ C : Int, Hid (C = cmpZ M1 M2) ∧ v = .int .i64 C))]) (fun _ => false) (by kernel_rfl) (by kernel_rfl) (by kernel_rfl) (fun _ _ h hb => ⟨h.1.out.below hb, h.2.out.below hb⟩) (Ix.vk_keeps _) (Ix.not_al _) HF1
  case step =>
    refine zyx 7 0 1 [] (fun wi HB => ?_) <| zyx 6 1 2 [] (fun wi HB => ?_) <| zyx 5 2 3 [(0, some 71), (1, some 72)] (fun wi HB => ?_) <| zyx 4 3 4 [] (fun wi HB => ?_) <| zyx 3 4 5 [] (fun wi HB => ?_) <| zyx 2 5 6 [(3, some 74), (4, some 75)] (fun wi HB => ?_) <| zyx 1 6 7 [(2, some 73), (5, some 76)] (fun wi HB => ?_) <| zyx 0 7 8 [(6, some 77)] (fun wi HB => ?_) <| Ix.steps_nil
    (· ((repeat (refine zya ?_; rintro _ rfl)); refine zye ?_; (try simp only [zyp]); refine Ix.goI_yes rfl rfl fun K hK => ?_; (try simp only [zyp] at hK); go_wp2_with (first | fail); exact hK _ _ (Below.refl _ _) rfl))
    (· (obtain ⟨HB, HT⟩ := HB; obtain ⟨t0, t1, t2, t3⟩ := HT.out; (repeat (refine zya ?_; rintro _ rfl)); refine zye ?_; (try simp only [zyp]); refine Ix.goI_yes rfl rfl fun K hK => ?_; (try simp only [zyp] at hK); go_wp2_with (first | fail); exact hK _ _ (Below.refl _ _) rfl))
    (· (obtain ⟨HB, HT⟩ := HB; obtain ⟨t0, t1, t2, t3⟩ := HT.out; (repeat (refine zya ?_; rintro _ rfl)); refine zye ?_; (try simp only [zyp]); refine Ix.goI_yes rfl rfl fun K hK => ?_; (try simp only [zyp] at hK); go_wp2_with (first | (go_at_call 53; refine (MA.out _).mono ?_; rintro e wa ⟨ga, rfl, hga, hba, hia⟩)); exact hK _ _ hba ⟨_, rfl, hia⟩))
    (· ((repeat (refine zya ?_; rintro _ rfl)); refine zye ?_; (try simp only [zyp]); refine Ix.goI_yes rfl rfl fun K hK => ?_; (try simp only [zyp] at hK); go_wp2_with (first | fail); exact hK _ _ (Below.refl _ _) rfl))
    (· (obtain ⟨HB, HT⟩ := HB; obtain ⟨t0, t1, t2, t3⟩ := HT.out; (repeat (refine zya ?_; rintro _ rfl)); refine zye ?_; (try simp only [zyp]); refine Ix.goI_yes rfl rfl fun K hK => ?_; (try simp only [zyp] at hK); go_wp2_with (first | fail); exact hK _ _ (Below.refl _ _) rfl))
    (· (obtain ⟨HB, HT⟩ := HB; obtain ⟨t0, t1, t2, t3⟩ := HT.out; (repeat (refine zya ?_; rintro _ rfl)); refine zye ?_; (try simp only [zyp]); refine Ix.goI_yes rfl rfl fun K hK => ?_; (try simp only [zyp] at hK); go_wp2_with (first | (go_at_call 53; refine (MB.out _).mono ?_; rintro e wa ⟨ga, rfl, hga, hba, hia⟩)); exact hK _ _ hba ⟨_, rfl, hia⟩))
    (· (obtain ⟨HB, HT⟩ := HB; obtain ⟨t0, t1, t2, t3⟩ := HT.out; refine zya ?_; rintro _ ⟨g2, rfl, hg2⟩; refine zya ?_; rintro _ ⟨g5, rfl, hg5⟩; refine zye ?_; (try simp only [zyp]); refine Ix.goI_yes rfl rfl fun K hK => ?_; (try simp only [zyp] at hK); go_wp2_with (first | (go_at_call 52; refine (CC.out _ _ _ hg2 hg5).mono ?_; rintro e wa ⟨C, hca, rfl, m, rfl⟩)); exact hK _ _ (below_drewN (Below.refl _ _) _) ⟨_, hca, rfl⟩))
    (· (obtain ⟨HB, HT⟩ := HB; obtain ⟨t0, t1, t2, t3⟩ := HT.out; refine zya ?_; rintro _ ⟨c6, hc6, rfl⟩; refine zye ?_; (try simp only [zyp]); refine Ix.goI_yes rfl rfl fun K hK => ?_; (try simp only [zyp] at hK); go_wp2_with (first | fail); exact hK _ _ (Below.refl _ _) ⟨_, hc6, rfl⟩))
  intro vsf wf HF hdf
  refine zyv 7 0 1 ?_; rintro _ _ rfl; refine zyv 6 1 2 ?_; rintro _ _ rfl; refine zyv 5 2 3 ?_; rintro _ _ ⟨g2, rfl, hg2⟩; refine zyv 4 3 4 ?_; rintro _ _ rfl; refine zyv 3 4 5 ?_; rintro _ _ rfl; refine zyv 2 5 6 ?_; rintro _ _ ⟨g5, rfl, hg5⟩; refine zyv 1 6 7 ?_; rintro _ _ ⟨c6, hc6, rfl⟩; refine zyv 0 7 8 ?_; rintro _ _ ⟨c7, hc7, rfl⟩
  refine Ix.allV_nil ?_
  obtain ⟨HB, HT⟩ := HF; obtain ⟨t0, t1, t2, t3⟩ := HT.out; have HC7 := hc7; clear hc6 hc7 hg2 hg5 hdf HF1
  (try simp only [Act.put, List.setIfInBounds_toArray, List.set_cons_zero, List.set_cons_succ, List.drop_succ_cons, List.drop_zero])
  refine Ix.nil ?_
  have HB9 := Lib.hid (HB.out.below (Ext.alloc (Below.refl _ _) (.cells #[.bool false, .slice none 0 0] 96)))
  have HS9 : Hid (w.heap.size ≤ wf.heap.size) := HB.out.ext.size
  have HI9 := Lib.hid (HA.out wf)
  clear t0 t1 t2 t3 HT
  have tok2 := Lib.hid True.intro
  go_wp2_with (first | (go_at_call_of 79 (Value.int IntKind.u64 pz); have _t := tok2; refine (WP.out _).mono ?_; rintro e w5 ⟨g5, rfl, hg5, hb5, hi5⟩; have I5 := Lib.hid hi5; have J5 := Lib.hid (HI9.out.below hb5); have B5 := Lib.hid (HB9.out.below hb5); clear hg5 hb5 hi5 tok2 _t) | (go_at_call 79; refine (WQ.out _).mono ?_; rintro e w6 ⟨g6, rfl, hg6, hb6, hi6⟩; have I6 := Lib.hid hi6; have J6 := Lib.hid (J5.out.below hb6); have K6 := Lib.hid (I5.out.below hb6); have B6 := Lib.hid (B5.out.below hb6); clear hg6 hb6 hi6) | (go_at_call 78; refine (CO.out _ _ _ _ J6.out K6.out I6.out).mono ?_; rintro e w7 ⟨rfl, hm7, hi7⟩; have I7 := Lib.hid hi7; have M7 := Lib.hid hm7; clear hi7 hm7) | (go_at_call 82; refine (CU.out _ _ I7.out).mono ?_; rintro e w8 ⟨rfl, rfl⟩))
  go_ret2
  exact ⟨rfl, M7.out.ext B6.out.ext (fun k hk => by rw [hk]; exact HS9.out)⟩
set_option maxHeartbeats 8000000 in
theorem r7binary_bit23 (a b xb yb T M1 M2 : Int) (p q : Nat) (xs ys TS : Bool) (hp : p < 18446744073709551616) (hq : q < 18446744073709551616)
    (VX : Hid (Gives 32 #[W.ty xb xs] (.bool true))) (VY : Hid (Gives 32 #[W.ty yb ys] (.bool true))) (NP : Hid (Gives 76 #[W.ty xb xs, W.ty yb ys] (W.ty T TS)))
    (CA : Hid (Gives 38 #[.int .u64 a, W.ty xb xs, W.ty T TS] (.int .u64 p))) (CB : Hid (Gives 38 #[.int .u64 b, W.ty yb ys, W.ty T TS] (.int .u64 q)))
    (MA : Hid (∀ w : World, Calls Try.prog 53 #[.int .u64 p, W.ty T TS] w (NewIo w M1))) (MB : Hid (∀ w : World, Calls Try.prog 53 #[.int .u64 q, W.ty T TS] w (NewIo w M2)))
    (w : World) :
    Calls Try.prog 41 #[.int .i64 23, .int .u64 a, .int .u64 b, W.ty xb xs, W.ty yb ys] w (BiR ((p ^^^ q : Nat) : Int) 0 w) := by
  have WP : Hid (∀ w : World, Calls Try.prog 79 #[.int .u64 (p : Int)] w (NewIo w (p : Int))) := fun w => whole_ok (p : Int) (by omega) (by omega) w
  have WQ : Hid (∀ w : World, Calls Try.prog 79 #[.int .u64 (q : Int)] w (NewIo w (q : Int))) := fun w => whole_ok (q : Int) (by omega) (by omega) w
  have CO : Hid (∀ (w : World) (g g1 g2 : Nat), Io w g 0 → Io w g1 (p : Int) → Io w g2 (q : Int) → Calls Try.prog 80 #[P g, P g1, P g2] w fun e w' => e = .returned (P g) ∧ Moved (fun k => k = g) w w' ∧ Io w' g ((p ^^^ q : Nat) : Int)) := fun w g g1 g2 h h1 h2 => intXor_ok g g1 g2 p q 0 hp hq w h h1 h2
  have hlt : (p ^^^ q) < 18446744073709551616 := Nat.xor_lt_two_pow (n := 64) hp hq
  obtain ⟨R, hR⟩ : ∃ R : Nat, R = (p ^^^ q) := ⟨_, rfl⟩
  rw [← hR] at CO hlt ⊢
  have CU : Hid (∀ (w : World) (g : Nat), Io w g (R : Int) → Calls Try.prog 82 #[P g] w fun e w' => e = .returned (.int .u64 (R : Int)) ∧ w = w') := fun w g h => by
    have := uint64_ok g _ w h
    rwa [Int.natAbs_natCast, Nat.mod_eq_of_lt hlt] at this
  obtain ⟨pz, hpz⟩ : ∃ z : Int, z = (p : Int) := ⟨_, rfl⟩
  obtain ⟨qz, hqz⟩ : ∃ z : Int, z = (q : Int) := ⟨_, rfl⟩
  obtain ⟨rz, hrz⟩ : ∃ z : Int, z = (R : Int) := ⟨_, rfl⟩
  rw [← hpz] at CA MA WP CO
  rw [← hqz] at CB MB WQ CO
  rw [← hrz] at CO CU ⊢
  have HA : Hid (∀ w0 : World, Io (w0.alloc (.cells #[.bool false, .slice none 0 0] 96)) w0.heap.size 0) := fun w0 => Io.new w0
  clear hR hpz hqz hrz hp hq hlt
  have K0 := Lib.hid (Tl.start w xb yb xs ys)
  have tok := Lib.hid True.intro
  have CC : Hid (∀ (w : World) (g g2 : Nat), Io w g M1 → Io w g2 M2 → Calls Try.prog 52 #[P g, P g2] w fun e w' => ∃ C : Int, Hid (C = cmpZ M1 M2) ∧ e = .returned (.int .i64 C) ∧ ∃ m, w' = w.drewN m) := fun w g g2 a b =>
    (intCmp_ok g g2 M1 M2 w a b).mono fun e w' ⟨h1, h2⟩ => ⟨_, (rfl : cmpZ M1 M2 = cmpZ M1 M2), h1, h2⟩
  go_enter Try.func41, Try.ntmps41
  go_wp2_with (first | (go_at_call_of 32 (Value.agg #[Value.int IntKind.i64 xb, Value.bool xs]); have _t := tok; refine (VX.out _).mono ?_; rintro e w1 ⟨rfl, hb1⟩; have K1 := Lib.hid (K0.out.below hb1); clear hb1 tok _t; obtain ⟨x0, x1, x2, x3⟩ := K1.out.x; obtain ⟨y0, y1, y2, y3⟩ := K1.out.y) | (go_at_call 32; refine (VY.out _).mono ?_; rintro e w2 ⟨rfl, hb2⟩; have K2 := Lib.hid (K1.out.below hb2); clear hb2 x0 x1 x2 x3 y0 y1 y2 y3; obtain ⟨x0, x1, x2, x3⟩ := K2.out.x; obtain ⟨y0, y1, y2, y3⟩ := K2.out.y) | (go_at_call 76; refine (NP.out _).mono ?_; rintro e w3 ⟨rfl, hb3⟩; have K3 := Lib.hid ((K2.out.below hb3).below (Ext.alloc (Below.refl _ _) (.cells #[.int .i64 T, .bool TS] 31))); have P3 := Lib.hid (Ty.new w3 rfl T TS 31); clear hb3 x0 x1 x2 x3 y0 y1 y2 y3))
  generalize (w3.alloc (.cells #[.int .i64 T, .bool TS] 31)) = wx at *
  apply Ix.wp_region 10 (fun wi => Hid (Tl w xb xs yb ys wi) ∧ Hid (Ty wi w3.heap.size T TS)) (Ix.vk [(Ix.kis _), (Ix.kis _), (Ix.kis _), (Ix.kis (.int .u64 pz)), (Ix.kis _), (Ix.kis _), (Ix.kis _), (Ix.kis (.int .u64 qz)), (Ix.kis _), (Ix.kis _)]) (fun _ => false) (by kernel_rfl) (by kernel_rfl) (by kernel_rfl) (fun _ _ h hb => ⟨h.1.out.below hb, h.2.out.below hb⟩) (Ix.vk_keeps _) (Ix.not_al _) ⟨K3, P3⟩
  case step =>
    refine zyx 9 0 1 [] (fun wi HB => ?_) <| zyx 8 1 2 [] (fun wi HB => ?_) <| zyx 7 2 3 [] (fun wi HB => ?_) <| zyx 6 3 4 [(0, some 63), (1, some 64), (2, some 65)] (fun wi HB => ?_) <| zyx 5 4 5 [] (fun wi HB => ?_) <| zyx 4 5 6 [] (fun wi HB => ?_) <| zyx 3 6 7 [] (fun wi HB => ?_) <| zyx 2 7 8 [(4, some 67), (5, some 68), (6, some 69)] (fun wi HB => ?_) <| zyx 1 8 9 [(3, some 66)] (fun wi HB => ?_) <| zyx 0 9 10 [(7, some 70)] (fun wi HB => ?_) <| Ix.steps_nil
    (· ((repeat (refine zya ?_; rintro _ rfl)); refine zye ?_; (try simp only [zyp]); refine Ix.goI_yes rfl rfl fun K hK => ?_; (try simp only [zyp] at hK); go_wp2_with (first | fail); exact hK _ _ (Below.refl _ _) rfl))
    iterate 2 (· (obtain ⟨HB, HT⟩ := HB; obtain ⟨x0, x1, x2, x3⟩ := HB.out.x; obtain ⟨y0, y1, y2, y3⟩ := HB.out.y; obtain ⟨t0, t1, t2, t3⟩ := HT.out; (repeat (refine zya ?_; rintro _ rfl)); refine zye ?_; (try simp only [zyp]); refine Ix.goI_yes rfl rfl fun K hK => ?_; (try simp only [zyp] at hK); go_wp2_with (first | fail); exact hK _ _ (Below.refl _ _) rfl))
    (· (obtain ⟨HB, HT⟩ := HB; obtain ⟨x0, x1, x2, x3⟩ := HB.out.x; obtain ⟨y0, y1, y2, y3⟩ := HB.out.y; obtain ⟨t0, t1, t2, t3⟩ := HT.out; (repeat (refine zya ?_; rintro _ rfl)); refine zye ?_; (try simp only [zyp]); refine Ix.goI_yes rfl rfl fun K hK => ?_; (try simp only [zyp] at hK); go_wp2_with (first | (go_at_call_of 38 (Value.agg #[Value.int IntKind.i64 xb, Value.bool xs]); refine (CA.out _).mono ?_; rintro e wa ⟨rfl, hba⟩)); exact hK _ _ hba rfl))
    (· ((repeat (refine zya ?_; rintro _ rfl)); refine zye ?_; (try simp only [zyp]); refine Ix.goI_yes rfl rfl fun K hK => ?_; (try simp only [zyp] at hK); go_wp2_with (first | fail); exact hK _ _ (Below.refl _ _) rfl))
    iterate 2 (· (obtain ⟨HB, HT⟩ := HB; obtain ⟨x0, x1, x2, x3⟩ := HB.out.x; obtain ⟨y0, y1, y2, y3⟩ := HB.out.y; obtain ⟨t0, t1, t2, t3⟩ := HT.out; (repeat (refine zya ?_; rintro _ rfl)); refine zye ?_; (try simp only [zyp]); refine Ix.goI_yes rfl rfl fun K hK => ?_; (try simp only [zyp] at hK); go_wp2_with (first | fail); exact hK _ _ (Below.refl _ _) rfl))
    (· (obtain ⟨HB, HT⟩ := HB; obtain ⟨x0, x1, x2, x3⟩ := HB.out.x; obtain ⟨y0, y1, y2, y3⟩ := HB.out.y; obtain ⟨t0, t1, t2, t3⟩ := HT.out; (repeat (refine zya ?_; rintro _ rfl)); refine zye ?_; (try simp only [zyp]); refine Ix.goI_yes rfl rfl fun K hK => ?_; (try simp only [zyp] at hK); go_wp2_with (first | (go_at_call 38; refine (CB.out _).mono ?_; rintro e wa ⟨rfl, hba⟩)); exact hK _ _ hba rfl))
    iterate 2 (· ((repeat (refine zya ?_; rintro _ rfl)); refine zye ?_; (try simp only [zyp]); refine Ix.goI_yes rfl rfl fun K hK => ?_; (try simp only [zyp] at hK); go_wp2_with (first | fail); exact hK _ _ (Below.refl _ _) rfl))
  intro vsf wf HF hdf
  refine zyv 9 0 1 ?_; rintro _ _ rfl; refine zyv 8 1 2 ?_; rintro _ _ rfl; refine zyv 7 2 3 ?_; rintro _ _ rfl; refine zyv 6 3 4 ?_; rintro _ _ rfl; refine zyv 5 4 5 ?_; rintro _ _ rfl; refine zyv 4 5 6 ?_; rintro _ _ rfl; refine zyv 3 6 7 ?_; rintro _ _ rfl; refine zyv 2 7 8 ?_; rintro _ _ rfl; refine zyv 1 8 9 ?_; rintro _ _ rfl; refine zyv 0 9 10 ?_; rintro _ _ rfl
  refine Ix.allV_nil ?_
  (try simp only [Act.put, List.setIfInBounds_toArray, List.set_cons_zero, List.set_cons_succ, List.drop_succ_cons, List.drop_zero])
  refine Ix.nil ?_
  have HF1 := HF
  clear hdf
  go_wp2
  apply Ix.wp_region 8 (fun wi => Hid (Tl w xb xs yb ys wi) ∧ Hid (Ty wi w3.heap.size T TS)) (Ix.vk [(Ix.kis _), (Ix.kis _), (Ix.kwld (fun v w' => ∃ g, v = P g ∧ Io w' g M1) (fun v w1 w2 h hb => by obtain ⟨g, e, hi⟩ := h; exact ⟨g, e, hi.below hb⟩)), (Ix.kis _), (Ix.kis _), (Ix.kwld (fun v w' => ∃ g, v = P g ∧ Io w' g M2) (fun v w1 w2 h hb => by obtain ⟨g, e, hi⟩ := h; exact ⟨g, e, hi.below hb⟩)), (Ix.ksat (fun v => ∃ C : Int, Hid (C = cmpZ M1 M2) ∧ v = .int .i64 C)), (Ix.ksat (fun v => ∃ C : Int, Hid (C = cmpZ M1 M2) ∧ v = .int .i64 C))]) (fun _ => false) (by kernel_rfl) (by kernel_rfl) (by kernel_rfl) (fun _ _ h hb => ⟨h.1.out.below hb, h.2.out.below hb⟩) (Ix.vk_keeps _) (Ix.not_al _) HF1
  case step =>
    refine zyx 7 0 1 [] (fun wi HB => ?_) <| zyx 6 1 2 [] (fun wi HB => ?_) <| zyx 5 2 3 [(0, some 71), (1, some 72)] (fun wi HB => ?_) <| zyx 4 3 4 [] (fun wi HB => ?_) <| zyx 3 4 5 [] (fun wi HB => ?_) <| zyx 2 5 6 [(3, some 74), (4, some 75)] (fun wi HB => ?_) <| zyx 1 6 7 [(2, some 73), (5, some 76)] (fun wi HB => ?_) <| zyx 0 7 8 [(6, some 77)] (fun wi HB => ?_) <| Ix.steps_nil
    (· ((repeat (refine zya ?_; rintro _ rfl)); refine zye ?_; (try simp only [zyp]); refine Ix.goI_yes rfl rfl fun K hK => ?_; (try simp only [zyp] at hK); go_wp2_with (first | fail); exact hK _ _ (Below.refl _ _) rfl))
    (· (obtain ⟨HB, HT⟩ := HB; obtain ⟨t0, t1, t2, t3⟩ := HT.out; (repeat (refine zya ?_; rintro _ rfl)); refine zye ?_; (try simp only [zyp]); refine Ix.goI_yes rfl rfl fun K hK => ?_; (try simp only [zyp] at hK); go_wp2_with (first | fail); exact hK _ _ (Below.refl _ _) rfl))
    (· (obtain ⟨HB, HT⟩ := HB; obtain ⟨t0, t1, t2, t3⟩ := HT.out; (repeat (refine zya ?_; rintro _ rfl)); refine zye ?_; (try simp only [zyp]); refine Ix.goI_yes rfl rfl fun K hK => ?_; (try simp only [zyp] at hK); go_wp2_with (first | (go_at_call 53; refine (MA.out _).mono ?_; rintro e wa ⟨ga, rfl, hga, hba, hia⟩)); exact hK _ _ hba ⟨_, rfl, hia⟩))
    (· ((repeat (refine zya ?_; rintro _ rfl)); refine zye ?_; (try simp only [zyp]); refine Ix.goI_yes rfl rfl fun K hK => ?_; (try simp only [zyp] at hK); go_wp2_with (first | fail); exact hK _ _ (Below.refl _ _) rfl))
    (· (obtain ⟨HB, HT⟩ := HB; obtain ⟨t0, t1, t2, t3⟩ := HT.out; (repeat (refine zya ?_; rintro _ rfl)); refine zye ?_; (try simp only [zyp]); refine Ix.goI_yes rfl rfl fun K hK => ?_; (try simp only [zyp] at hK); go_wp2_with (first | fail); exact hK _ _ (Below.refl _ _) rfl))
    (· (obtain ⟨HB, HT⟩ := HB; obtain ⟨t0, t1, t2, t3⟩ := HT.out; (repeat (refine zya ?_; rintro _ rfl)); refine zye ?_; (try simp only [zyp]); refine Ix.goI_yes rfl rfl fun K hK => ?_; (try simp only [zyp] at hK); go_wp2_with (first | (go_at_call 53; refine (MB.out _).mono ?_; rintro e wa ⟨ga, rfl, hga, hba, hia⟩)); exact hK _ _ hba ⟨_, rfl, hia⟩))
    (· (obtain ⟨HB, HT⟩ := HB; obtain ⟨t0, t1, t2, t3⟩ := HT.out; refine zya ?_; rintro _ ⟨g2, rfl, hg2⟩; refine zya ?_; rintro _ ⟨g5, rfl, hg5⟩; refine zye ?_; (try simp only [zyp]); refine Ix.goI_yes rfl rfl fun K hK => ?_; (try simp only [zyp] at hK); go_wp2_with (first | (go_at_call 52; refine (CC.out _ _ _ hg2 hg5).mono ?_; rintro e wa ⟨C, hca, rfl, m, rfl⟩)); exact hK _ _ (below_drewN (Below.refl _ _) _) ⟨_, hca, rfl⟩))
    (· (obtain ⟨HB, HT⟩ := HB; obtain ⟨t0, t1, t2, t3⟩ := HT.out; refine zya ?_; rintro _ ⟨c6, hc6, rfl⟩; refine zye ?_; (try simp only [zyp]); refine Ix.goI_yes rfl rfl fun K hK => ?_; (try simp only [zyp] at hK); go_wp2_with (first | fail); exact hK _ _ (Below.refl _ _) ⟨_, hc6, rfl⟩))
  intro vsf wf HF hdf
  refine zyv 7 0 1 ?_; rintro _ _ rfl; refine zyv 6 1 2 ?_; rintro _ _ rfl; refine zyv 5 2 3 ?_; rintro _ _ ⟨g2, rfl, hg2⟩; refine zyv 4 3 4 ?_; rintro _ _ rfl; refine zyv 3 4 5 ?_; rintro _ _ rfl; refine zyv 2 5 6 ?_; rintro _ _ ⟨g5, rfl, hg5⟩; refine zyv 1 6 7 ?_; rintro _ _ ⟨c6, hc6, rfl⟩; refine zyv 0 7 8 ?_; rintro _ _ ⟨c7, hc7, rfl⟩
  refine Ix.allV_nil ?_
  obtain ⟨HB, HT⟩ := HF; obtain ⟨t0, t1, t2, t3⟩ := HT.out; have HC7 := hc7; clear hc6 hc7 hg2 hg5 hdf HF1
  (try simp only [Act.put, List.setIfInBounds_toArray, List.set_cons_zero, List.set_cons_succ, List.drop_succ_cons, List.drop_zero])
  refine Ix.nil ?_
  have HB9 := Lib.hid (HB.out.below (Ext.alloc (Below.refl _ _) (.cells #[.bool false, .slice none 0 0] 96)))
  have HS9 : Hid (w.heap.size ≤ wf.heap.size) := HB.out.ext.size
  have HI9 := Lib.hid (HA.out wf)
  clear t0 t1 t2 t3 HT
  have tok2 := Lib.hid True.intro
  go_wp2_with (first | (go_at_call_of 79 (Value.int IntKind.u64 pz); have _t := tok2; refine (WP.out _).mono ?_; rintro e w5 ⟨g5, rfl, hg5, hb5, hi5⟩; have I5 := Lib.hid hi5; have J5 := Lib.hid (HI9.out.below hb5); have B5 := Lib.hid (HB9.out.below hb5); clear hg5 hb5 hi5 tok2 _t) | (go_at_call 79; refine (WQ.out _).mono ?_; rintro e w6 ⟨g6, rfl, hg6, hb6, hi6⟩; have I6 := Lib.hid hi6; have J6 := Lib.hid (J5.out.below hb6); have K6 := Lib.hid (I5.out.below hb6); have B6 := Lib.hid (B5.out.below hb6); clear hg6 hb6 hi6) | (go_at_call 80; refine (CO.out _ _ _ _ J6.out K6.out I6.out).mono ?_; rintro e w7 ⟨rfl, hm7, hi7⟩; have I7 := Lib.hid hi7; have M7 := Lib.hid hm7; clear hi7 hm7) | (go_at_call 82; refine (CU.out _ _ I7.out).mono ?_; rintro e w8 ⟨rfl, rfl⟩))
  go_ret2
  exact ⟨rfl, M7.out.ext B6.out.ext (fun k hk => by rw [hk]; exact HS9.out)⟩
set_option maxHeartbeats 8000000 in
theorem r7binary_bit24 (a b xb yb T M1 M2 : Int) (p q : Nat) (xs ys TS : Bool) (hp : p < 18446744073709551616) (hq : q < 18446744073709551616)
    (VX : Hid (Gives 32 #[W.ty xb xs] (.bool true))) (VY : Hid (Gives 32 #[W.ty yb ys] (.bool true))) (NP : Hid (Gives 76 #[W.ty xb xs, W.ty yb ys] (W.ty T TS)))
    (CA : Hid (Gives 38 #[.int .u64 a, W.ty xb xs, W.ty T TS] (.int .u64 p))) (CB : Hid (Gives 38 #[.int .u64 b, W.ty yb ys, W.ty T TS] (.int .u64 q)))
    (MA : Hid (∀ w : World, Calls Try.prog 53 #[.int .u64 p, W.ty T TS] w (NewIo w M1))) (MB : Hid (∀ w : World, Calls Try.prog 53 #[.int .u64 q, W.ty T TS] w (NewIo w M2)))
    (w : World) :
    Calls Try.prog 41 #[.int .i64 24, .int .u64 a, .int .u64 b, W.ty xb xs, W.ty yb ys] w (BiR ((p ||| q : Nat) : Int) 0 w) := by
  have WP : Hid (∀ w : World, Calls Try.prog 79 #[.int .u64 (p : Int)] w (NewIo w (p : Int))) := fun w => whole_ok (p : Int) (by omega) (by omega) w
  have WQ : Hid (∀ w : World, Calls Try.prog 79 #[.int .u64 (q : Int)] w (NewIo w (q : Int))) := fun w => whole_ok (q : Int) (by omega) (by omega) w
  have CO : Hid (∀ (w : World) (g g1 g2 : Nat), Io w g 0 → Io w g1 (p : Int) → Io w g2 (q : Int) → Calls Try.prog 81 #[P g, P g1, P g2] w fun e w' => e = .returned (P g) ∧ Moved (fun k => k = g) w w' ∧ Io w' g ((p ||| q : Nat) : Int)) := fun w g g1 g2 h h1 h2 => intOr_ok g g1 g2 p q 0 hp hq w h h1 h2
  have hlt : (p ||| q) < 18446744073709551616 := Nat.or_lt_two_pow (n := 64) hp hq
  obtain ⟨R, hR⟩ : ∃ R : Nat, R = (p ||| q) := ⟨_, rfl⟩
  rw [← hR] at CO hlt ⊢
  have CU : Hid (∀ (w : World) (g : Nat), Io w g (R : Int) → Calls Try.prog 82 #[P g] w fun e w' => e = .returned (.int .u64 (R : Int)) ∧ w = w') := fun w g h => by
    have := uint64_ok g _ w h
    rwa [Int.natAbs_natCast, Nat.mod_eq_of_lt hlt] at this
  obtain ⟨pz, hpz⟩ : ∃ z : Int, z = (p : Int) := ⟨_, rfl⟩
  obtain ⟨qz, hqz⟩ : ∃ z : Int, z = (q : Int) := ⟨_, rfl⟩
  obtain ⟨rz, hrz⟩ : ∃ z : Int, z = (R : Int) := ⟨_, rfl⟩
  rw [← hpz] at CA MA WP CO
  rw [← hqz] at CB MB WQ CO
  rw [← hrz] at CO CU ⊢
  have HA : Hid (∀ w0 : World, Io (w0.alloc (.cells #[.bool false, .slice none 0 0] 96)) w0.heap.size 0) := fun w0 => Io.new w0
  clear hR hpz hqz hrz hp hq hlt
  have K0 := Lib.hid (Tl.start w xb yb xs ys)
  have tok := Lib.hid True.intro
  have CC : Hid (∀ (w : World) (g g2 : Nat), Io w g M1 → Io w g2 M2 → Calls Try.prog 52 #[P g, P g2] w fun e w' => ∃ C : Int, Hid (C = cmpZ M1 M2) ∧ e = .returned (.int .i64 C) ∧ ∃ m, w' = w.drewN m) := fun w g g2 a b =>
    (intCmp_ok g g2 M1 M2 w a b).mono fun e w' ⟨h1, h2⟩ => ⟨_, (rfl : cmpZ M1 M2 = cmpZ M1 M2), h1, h2⟩
  go_enter Try.func41, Try.ntmps41
  go_wp2_with (first | (go_at_call_of 32 (Value.agg #[Value.int IntKind.i64 xb, Value.bool xs]); have _t := tok; refine (VX.out _).mono ?_; rintro e w1 ⟨rfl, hb1⟩; have K1 := Lib.hid (K0.out.below hb1); clear hb1 tok _t; obtain ⟨x0, x1, x2, x3⟩ := K1.out.x; obtain ⟨y0, y1, y2, y3⟩ := K1.out.y) | (go_at_call 32; refine (VY.out _).mono ?_; rintro e w2 ⟨rfl, hb2⟩; have K2 := Lib.hid (K1.out.below hb2); clear hb2 x0 x1 x2 x3 y0 y1 y2 y3; obtain ⟨x0, x1, x2, x3⟩ := K2.out.x; obtain ⟨y0, y1, y2, y3⟩ := K2.out.y) | (go_at_call 76; refine (NP.out _).mono ?_; rintro e w3 ⟨rfl, hb3⟩; have K3 := Lib.hid ((K2.out.below hb3).below (Ext.alloc (Below.refl _ _) (.cells #[.int .i64 T, .bool TS] 31))); have P3 := Lib.hid (Ty.new w3 rfl T TS 31); clear hb3 x0 x1 x2 x3 y0 y1 y2 y3))
  generalize (w3.alloc (.cells #[.int .i64 T, .bool TS] 31)) = wx at *
  apply Ix.wp_region 10 (fun wi => Hid (Tl w xb xs yb ys wi) ∧ Hid (Ty wi w3.heap.size T TS)) (Ix.vk [(Ix.kis _), (Ix.kis _), (Ix.kis _), (Ix.kis (.int .u64 pz)), (Ix.kis _), (Ix.kis _), (Ix.kis _), (Ix.kis (.int .u64 qz)), (Ix.kis _), (Ix.kis _)]) (fun _ => false) (by kernel_rfl) (by kernel_rfl) (by kernel_rfl) (fun _ _ h hb => ⟨h.1.out.below hb, h.2.out.below hb⟩) (Ix.vk_keeps _) (Ix.not_al _) ⟨K3, P3⟩
  case step =>
    refine zyx 9 0 1 [] (fun wi HB => ?_) <| zyx 8 1 2 [] (fun wi HB => ?_) <| zyx 7 2 3 [] (fun wi HB => ?_) <| zyx 6 3 4 [(0, some 63), (1, some 64), (2, some 65)] (fun wi HB => ?_) <| zyx 5 4 5 [] (fun wi HB => ?_) <| zyx 4 5 6 [] (fun wi HB => ?_) <| zyx 3 6 7 [] (fun wi HB => ?_) <| zyx 2 7 8 [(4, some 67), (5, some 68), (6, some 69)] (fun wi HB => ?_) <| zyx 1 8 9 [(3, some 66)] (fun wi HB => ?_) <| zyx 0 9 10 [(7, some 70)] (fun wi HB => ?_) <| Ix.steps_nil
    (· ((repeat (refine zya ?_; rintro _ rfl)); refine zye ?_; (try simp only [zyp]); refine Ix.goI_yes rfl rfl fun K hK => ?_; (try simp only [zyp] at hK); go_wp2_with (first | fail); exact hK _ _ (Below.refl _ _) rfl))
    iterate 2 (· (obtain ⟨HB, HT⟩ := HB; obtain ⟨x0, x1, x2, x3⟩ := HB.out.x; obtain ⟨y0, y1, y2, y3⟩ := HB.out.y; obtain ⟨t0, t1, t2, t3⟩ := HT.out; (repeat (refine zya ?_; rintro _ rfl)); refine zye ?_; (try simp only [zyp]); refine Ix.goI_yes rfl rfl fun K hK => ?_; (try simp only [zyp] at hK); go_wp2_with (first | fail); exact hK _ _ (Below.refl _ _) rfl))
    (· (obtain ⟨HB, HT⟩ := HB; obtain ⟨x0, x1, x2, x3⟩ := HB.out.x; obtain ⟨y0, y1, y2, y3⟩ := HB.out.y; obtain ⟨t0, t1, t2, t3⟩ := HT.out; (repeat (refine zya ?_; rintro _ rfl)); refine zye ?_; (try simp only [zyp]); refine Ix.goI_yes rfl rfl fun K hK => ?_; (try simp only [zyp] at hK); go_wp2_with (first | (go_at_call_of 38 (Value.agg #[Value.int IntKind.i64 xb, Value.bool xs]); refine (CA.out _).mono ?_; rintro e wa ⟨rfl, hba⟩)); exact hK _ _ hba rfl))
    (· ((repeat (refine zya ?_; rintro _ rfl)); refine zye ?_; (try simp only [zyp]); refine Ix.goI_yes rfl rfl fun K hK => ?_; (try simp only [zyp] at hK); go_wp2_with (first | fail); exact hK _ _ (Below.refl _ _) rfl))
    iterate 2 (· (obtain ⟨HB, HT⟩ := HB; obtain ⟨x0, x1, x2, x3⟩ := HB.out.x; obtain ⟨y0, y1, y2, y3⟩ := HB.out.y; obtain ⟨t0, t1, t2, t3⟩ := HT.out; (repeat (refine zya ?_; rintro _ rfl)); refine zye ?_; (try simp only [zyp]); refine Ix.goI_yes rfl rfl fun K hK => ?_; (try simp only [zyp] at hK); go_wp2_with (first | fail); exact hK _ _ (Below.refl _ _) rfl))
    (· (obtain ⟨HB, HT⟩ := HB; obtain ⟨x0, x1, x2, x3⟩ := HB.out.x; obtain ⟨y0, y1, y2, y3⟩ := HB.out.y; obtain ⟨t0, t1, t2, t3⟩ := HT.out; (repeat (refine zya ?_; rintro _ rfl)); refine zye ?_; (try simp only [zyp]); refine Ix.goI_yes rfl rfl fun K hK => ?_; (try simp only [zyp] at hK); go_wp2_with (first | (go_at_call 38; refine (CB.out _).mono ?_; rintro e wa ⟨rfl, hba⟩)); exact hK _ _ hba rfl))
    iterate 2 (· ((repeat (refine zya ?_; rintro _ rfl)); refine zye ?_; (try simp only [zyp]); refine Ix.goI_yes rfl rfl fun K hK => ?_; (try simp only [zyp] at hK); go_wp2_with (first | fail); exact hK _ _ (Below.refl _ _) rfl))
  intro vsf wf HF hdf
  refine zyv 9 0 1 ?_; rintro _ _ rfl; refine zyv 8 1 2 ?_; rintro _ _ rfl; refine zyv 7 2 3 ?_; rintro _ _ rfl; refine zyv 6 3 4 ?_; rintro _ _ rfl; refine zyv 5 4 5 ?_; rintro _ _ rfl; refine zyv 4 5 6 ?_; rintro _ _ rfl; refine zyv 3 6 7 ?_; rintro _ _ rfl; refine zyv 2 7 8 ?_; rintro _ _ rfl; refine zyv 1 8 9 ?_; rintro _ _ rfl; refine zyv 0 9 10 ?_; rintro _ _ rfl
  refine Ix.allV_nil ?_
  (try simp only [Act.put, List.setIfInBounds_toArray, List.set_cons_zero, List.set_cons_succ, List.drop_succ_cons, List.drop_zero])
  refine Ix.nil ?_
  have HF1 := HF
  clear hdf
  go_wp2
  apply Ix.wp_region 8 (fun wi => Hid (Tl w xb xs yb ys wi) ∧ Hid (Ty wi w3.heap.size T TS)) (Ix.vk [(Ix.kis _), (Ix.kis _), (Ix.kwld (fun v w' => ∃ g, v = P g ∧ Io w' g M1) (fun v w1 w2 h hb => by obtain ⟨g, e, hi⟩ := h; exact ⟨g, e, hi.below hb⟩)), (Ix.kis _), (Ix.kis _), (Ix.kwld (fun v w' => ∃ g, v = P g ∧ Io w' g M2) (fun v w1 w2 h hb => by obtain ⟨g, e, hi⟩ := h; exact ⟨g, e, hi.below hb⟩)), (Ix.ksat (fun v => ∃ C : Int, Hid (C = cmpZ M1 M2) ∧ v = .int .i64 C)), (Ix.ksat (fun v => ∃ C : Int, Hid (C = cmpZ M1 M2) ∧ v = .int .i64 C))]) (fun _ => false) (by kernel_rfl) (by kernel_rfl) (by kernel_rfl) (fun _ _ h hb => ⟨h.1.out.below hb, h.2.out.below hb⟩) (Ix.vk_keeps _) (Ix.not_al _) HF1
  case step =>
    refine zyx 7 0 1 [] (fun wi HB => ?_) <| zyx 6 1 2 [] (fun wi HB => ?_) <| zyx 5 2 3 [(0, some 71), (1, some 72)] (fun wi HB => ?_) <| zyx 4 3 4 [] (fun wi HB => ?_) <| zyx 3 4 5 [] (fun wi HB => ?_) <| zyx 2 5 6 [(3, some 74), (4, some 75)] (fun wi HB => ?_) <| zyx 1 6 7 [(2, some 73), (5, some 76)] (fun wi HB => ?_) <| zyx 0 7 8 [(6, some 77)] (fun wi HB => ?_) <| Ix.steps_nil
    (· ((repeat (refine zya ?_; rintro _ rfl)); refine zye ?_; (try simp only [zyp]); refine Ix.goI_yes rfl rfl fun K hK => ?_; (try simp only [zyp] at hK); go_wp2_with (first | fail); exact hK _ _ (Below.refl _ _) rfl))
    (· (obtain ⟨HB, HT⟩ := HB; obtain ⟨t0, t1, t2, t3⟩ := HT.out; (repeat (refine zya ?_; rintro _ rfl)); refine zye ?_; (try simp only [zyp]); refine Ix.goI_yes rfl rfl fun K hK => ?_; (try simp only [zyp] at hK); go_wp2_with (first | fail); exact hK _ _ (Below.refl _ _) rfl))
    (· (obtain ⟨HB, HT⟩ := HB; obtain ⟨t0, t1, t2, t3⟩ := HT.out; (repeat (refine zya ?_; rintro _ rfl)); refine zye ?_; (try simp only [zyp]); refine Ix.goI_yes rfl rfl fun K hK => ?_; (try simp only [zyp] at hK); go_wp2_with (first | (go_at_call 53; refine (MA.out _).mono ?_; rintro e wa ⟨ga, rfl, hga, hba, hia⟩)); exact hK _ _ hba ⟨_, rfl, hia⟩))
    (· ((repeat (refine zya ?_; rintro _ rfl)); refine zye ?_; (try simp only [zyp]); refine Ix.goI_yes rfl rfl fun K hK => ?_; (try simp only [zyp] at hK); go_wp2_with (first | fail); exact hK _ _ (Below.refl _ _) rfl))
    (· (obtain ⟨HB, HT⟩ := HB; obtain ⟨t0, t1, t2, t3⟩ := HT.out; (repeat (refine zya ?_; rintro _ rfl)); refine zye ?_; (try simp only [zyp]); refine Ix.goI_yes rfl rfl fun K hK => ?_; (try simp only [zyp] at hK); go_wp2_with (first | fail); exact hK _ _ (Below.refl _ _) rfl))
    (· (obtain ⟨HB, HT⟩ := HB; obtain ⟨t0, t1, t2, t3⟩ := HT.out; (repeat (refine zya ?_; rintro _ rfl)); refine zye ?_; (try simp only [zyp]); refine Ix.goI_yes rfl rfl fun K hK => ?_; (try simp only [zyp] at hK); go_wp2_with (first | (go_at_call 53; refine (MB.out _).mono ?_; rintro e wa ⟨ga, rfl, hga, hba, hia⟩)); exact hK _ _ hba ⟨_, rfl, hia⟩))
    (· (obtain ⟨HB, HT⟩ := HB; obtain ⟨t0, t1, t2, t3⟩ := HT.out; refine zya ?_; rintro _ ⟨g2, rfl, hg2⟩; refine zya ?_; rintro _ ⟨g5, rfl, hg5⟩; refine zye ?_; (try simp only [zyp]); refine Ix.goI_yes rfl rfl fun K hK => ?_; (try simp only [zyp] at hK); go_wp2_with (first | (go_at_call 52; refine (CC.out _ _ _ hg2 hg5).mono ?_; rintro e wa ⟨C, hca, rfl, m, rfl⟩)); exact hK _ _ (below_drewN (Below.refl _ _) _) ⟨_, hca, rfl⟩))
    (· (obtain ⟨HB, HT⟩ := HB; obtain ⟨t0, t1, t2, t3⟩ := HT.out; refine zya ?_; rintro _ ⟨c6, hc6, rfl⟩; refine zye ?_; (try simp only [zyp]); refine Ix.goI_yes rfl rfl fun K hK => ?_; (try simp only [zyp] at hK); go_wp2_with (first | fail); exact hK _ _ (Below.refl _ _) ⟨_, hc6, rfl⟩))
  intro vsf wf HF hdf
  refine zyv 7 0 1 ?_; rintro _ _ rfl; refine zyv 6 1 2 ?_; rintro _ _ rfl; refine zyv 5 2 3 ?_; rintro _ _ ⟨g2, rfl, hg2⟩; refine zyv 4 3 4 ?_; rintro _ _ rfl; refine zyv 3 4 5 ?_; rintro _ _ rfl; refine zyv 2 5 6 ?_; rintro _ _ ⟨g5, rfl, hg5⟩; refine zyv 1 6 7 ?_; rintro _ _ ⟨c6, hc6, rfl⟩; refine zyv 0 7 8 ?_; rintro _ _ ⟨c7, hc7, rfl⟩
  refine Ix.allV_nil ?_
  obtain ⟨HB, HT⟩ := HF; obtain ⟨t0, t1, t2, t3⟩ := HT.out; have HC7 := hc7; clear hc6 hc7 hg2 hg5 hdf HF1
  (try simp only [Act.put, List.setIfInBounds_toArray, List.set_cons_zero, List.set_cons_succ, List.drop_succ_cons, List.drop_zero])
  refine Ix.nil ?_
  have HB9 := Lib.hid (HB.out.below (Ext.alloc (Below.refl _ _) (.cells #[.bool false, .slice none 0 0] 96)))
  have HS9 : Hid (w.heap.size ≤ wf.heap.size) := HB.out.ext.size
  have HI9 := Lib.hid (HA.out wf)
  clear t0 t1 t2 t3 HT
  have tok2 := Lib.hid True.intro
  go_wp2_with (first | (go_at_call_of 79 (Value.int IntKind.u64 pz); have _t := tok2; refine (WP.out _).mono ?_; rintro e w5 ⟨g5, rfl, hg5, hb5, hi5⟩; have I5 := Lib.hid hi5; have J5 := Lib.hid (HI9.out.below hb5); have B5 := Lib.hid (HB9.out.below hb5); clear hg5 hb5 hi5 tok2 _t) | (go_at_call 79; refine (WQ.out _).mono ?_; rintro e w6 ⟨g6, rfl, hg6, hb6, hi6⟩; have I6 := Lib.hid hi6; have J6 := Lib.hid (J5.out.below hb6); have K6 := Lib.hid (I5.out.below hb6); have B6 := Lib.hid (B5.out.below hb6); clear hg6 hb6 hi6) | (go_at_call 81; refine (CO.out _ _ _ _ J6.out K6.out I6.out).mono ?_; rintro e w7 ⟨rfl, hm7, hi7⟩; have I7 := Lib.hid hi7; have M7 := Lib.hid hm7; clear hi7 hm7) | (go_at_call 82; refine (CU.out _ _ I7.out).mono ?_; rintro e w8 ⟨rfl, rfl⟩))
  go_ret2
  exact ⟨rfl, M7.out.ext B6.out.ext (fun k hk => by rw [hk]; exact HS9.out)⟩
end Go.Proofs.Ytkmcniaaecijdaa
namespace Go.Proofs.Ytkmcniaaecijdaa
open Go.RowKit Go.Maps
set_option linter.unusedVariables false
set_option linter.unusedSimpArgs false
set_option maxRecDepth 100000

theorem W.mn_cut (v x : Int) (s : Bool) : W.mn v x s % W.md v = x % W.md v := by
  unfold W.mn
  cases s
  · exact Int.emod_emod_of_dvd x (Int.dvd_refl _)
  · exact W.sg_mod v x
theorem W.mn_add (v a b : Int) (s : Bool) : (W.mn v a s + W.mn v b s) % W.md v = W.add v a b := by
  rw [Int.add_emod, W.mn_cut, W.mn_cut, W.add_mods]; rfl
theorem W.mn_sub (v a b : Int) (s : Bool) : (W.mn v a s - W.mn v b s) % W.md v = W.sub v a b := by
  rw [Int.sub_emod, W.mn_cut, W.mn_cut, W.sub_mods]; rfl
theorem W.mn_mul (v a b : Int) (s : Bool) : (W.mn v a s * W.mn v b s) % W.md v = W.mul v a b := by
  rw [Int.mul_emod, W.mn_cut, W.mn_cut, W.mul_mods]; rfl
theorem W.mn_quo (v a b : Int) (s : Bool) : (W.mn v a s).tdiv (W.mn v b s) % W.md v = W.quo v s a b := by
  unfold W.mn W.quo
  cases s
  · simp only [Bool.false_eq_true, if_false]
    have h1 := W.mod_lo a v; have h2 := W.mod_lo b v; have h3 := W.mod_hi a v
    rw [Int.tdiv_eq_ediv_of_nonneg h1]
    have := W.div_le h1 h2
    exact Int.emod_eq_of_lt (Int.ediv_nonneg h1 h2) (by omega)
  · rfl
theorem W.mn_rem (v a b : Int) (s : Bool) : (W.mn v a s).tmod (W.mn v b s) % W.md v = W.rem v s a b := by
  unfold W.mn W.rem
  cases s
  · simp only [Bool.false_eq_true, if_false]
    have h1 := W.mod_lo a v; have h2 := W.mod_lo b v; have h3 := W.mod_hi a v; have h4 := W.mod_hi b v
    rw [Int.tmod_eq_emod_of_nonneg h1]
    by_cases hz : b % W.md v = 0
    · rw [hz, Int.emod_zero]; exact Int.emod_eq_of_lt h1 h3
    · have := Int.emod_lt_of_pos (a % W.md v) (show 0 < b % W.md v by omega)
      exact Int.emod_eq_of_lt (Int.emod_nonneg _ hz) (by omega)
  · rfl
theorem W.mn_zero (v b : Int) (s : Bool) : W.mn v b s = 0 ↔ b % W.md v = 0 := by
  unfold W.mn
  cases s
  · simp
  · simp only [if_true]; unfold W.sg
    have h1 := W.mod_lo b v; have h2 := W.mod_hi b v
    split <;> omega
theorem W.mn_less (v a b : Int) (s : Bool) : ((if W.mn v a s < W.mn v b s then (1 : Int) else 0) == 1) = W.less v s a b := by
  unfold W.mn W.less
  cases s
  · simp only [Bool.false_eq_true, if_false]; split <;> simp [*]
  · simp only [if_true]; split <;> simp [*]
theorem W.mn_shl (v a n : Int) (s : Bool) : (W.mn v a s * 2 ^ min n.toNat 64) % W.md v = W.shl v a n := by
  have hm : W.mn v a s % W.md v = a % W.md v := by
    unfold W.mn
    cases s
    · exact Int.emod_emod_of_dvd a (Int.dvd_refl _)
    · exact W.sg_mod v a
  unfold W.shl
  rw [Int.mul_emod, hm, ← Int.mul_emod]
theorem W.mn_shr (v a n : Int) (s : Bool) : (W.mn v a s / 2 ^ min n.toNat 64) % W.md v = W.shr v s a n := by
  unfold W.mn W.shr
  cases s
  · simp only [Bool.false_eq_true, if_false]
    have h1 := W.mod_lo a v; have h2 := W.mod_hi a v
    have hp := W.pow_pos (min n.toNat 64)
    have := Int.ediv_le_self (2 ^ min n.toNat 64) h1
    exact Int.emod_eq_of_lt (Int.ediv_nonneg h1 (Int.le_of_lt hp)) (by omega)
  · rfl

theorem W.less_mn (v a b : Int) (s : Bool) : W.less v s a b = decide (W.mn v a s < W.mn v b s) := by
  rw [← W.mn_less]; split <;> simp [*]
theorem cmpZ_lt {x y : Int} : decide (cmpZ x y < 0) = decide (x < y) := by unfold cmpZ; by_cases h : x < y <;> simp [h]; split <;> omega
theorem cmpZ_eq {x y : Int} : (cmpZ x y == 0) = (!decide (x < y) && !decide (y < x)) := by
  unfold cmpZ
  by_cases h : x < y
  · simp [h]
  · by_cases h2 : x = y
    · subst h2; simp
    · have h3 : y < x := by omega
      simp [h, h3, h2]
theorem cmpZ_le {x y : Int} : decide (cmpZ x y ≤ 0) = !decide (y < x) := by
  unfold cmpZ
  by_cases h : x < y
  · have : ¬ y < x := by omega
    simp [h, this]
  · by_cases h2 : x = y
    · subst h2; simp
    · have h3 : y < x := by omega
      simp [h, h3, h2]
theorem cmpZ_gt {x y : Int} : decide (cmpZ x y > 0) = decide (y < x) := by
  have := cmpZ_le (x := x) (y := y)
  by_cases h : y < x
  · simp [h] at this ⊢; omega
  · simp [h] at this ⊢; omega
theorem cmpZ_ge' {x y : Int} : decide (cmpZ x y ≥ 0) = !decide (x < y) := by
  have := cmpZ_lt (x := x) (y := y)
  by_cases h : x < y
  · simp [h] at this ⊢; omega
  · simp [h] at this ⊢; omega
theorem cmpZ_ne {x y : Int} : (cmpZ x y != 0) = (decide (x < y) || decide (y < x)) := by
  have := cmpZ_eq (x := x) (y := y)
  rw [bne, this]; cases decide (x < y) <;> cases decide (y < x) <;> rfl

/-- Both give the same. -/
def Both (f g : Nat) (args : Array Value) : Prop := ∃ r e : Int, Gives f args (.tuple #[.int .u64 r, .int .i64 e]) ∧ Gives g args (.tuple #[.int .u64 r, .int .i64 e])
theorem W.pb_ok {b : Int} (h : W.ok b) : W.ok (W.pb b) := by
  unfold W.pb
  split
  · simp [W.ok]
  · exact h
theorem W.cb_ok {a b : Int} (h : W.ok a) (k : W.ok b) : W.ok (W.cb a b) := by
  unfold W.cb
  split
  · exact W.pb_ok h
  · exact W.pb_ok k

theorem both_bin (k a b xb yb : Int) (xs ys : Bool) (ha : W.U a) (hb : W.U b) : Both 36 41 #[.int .i64 k, .int .u64 a, .int .u64 b, W.ty xb xs, W.ty yb ys] := by
  have VX : Hid (Gives 57 #[W.ty xb xs] (.bool (W.okB xb))) := valid_any xb xs
  have VY : Hid (Gives 57 #[W.ty yb ys] (.bool (W.okB yb))) := valid_any yb ys
  have RX : Hid (Gives 32 #[W.ty xb xs] (.bool (W.okB xb))) := fun w => r7valid xb xs w
  have RY : Hid (Gives 32 #[W.ty yb ys] (.bool (W.okB yb))) := fun w => r7valid yb ys w
  by_cases hbad : W.okB xb = false ∨ W.okB yb = false ∨ k < 9 ∨ 24 < k
  · exact ⟨0, 1, fun w => binary_bad k a b xb yb xs ys _ _ hbad VX VY w, fun w => r7binary_bad k a b xb yb xs ys _ _ hbad RX RY w⟩
  have hx1 : W.okB xb = true := Classical.byContradiction fun h => hbad (.inl (by simpa using h))
  have hy1 : W.okB yb = true := Classical.byContradiction fun h => hbad (.inr (.inl (by simpa using h)))
  have hx : W.ok xb := Classical.byContradiction fun h => by rw [W.okB_f h] at hx1; cases hx1
  have hy : W.ok yb := Classical.byContradiction fun h => by rw [W.okB_f h] at hy1; cases hy1
  have hk9 : 9 ≤ k ∧ k ≤ 24 := ⟨Classical.byContradiction fun h => hbad (.inr (.inr (.inl (by omega)))), Classical.byContradiction fun h => hbad (.inr (.inr (.inr (by omega))))⟩
  rw [hx1] at VX RX; rw [hy1] at VY RY
  have o16 : W.ok 16 := by simp [W.ok]
  have hT := W.pb_ok hx
  have hC := W.cb_ok hx hy
  have UP := W.conv_U xb xs (W.cb xb yb) a
  have UQ := W.conv_U yb ys (W.cb xb yb) b
  obtain ⟨T, hTd⟩ : ∃ T, T = W.cb xb yb := ⟨_, rfl⟩
  obtain ⟨S, hSd⟩ : ∃ S, S = W.cs xb xs yb ys := ⟨_, rfl⟩
  obtain ⟨p, hpd⟩ : ∃ p, p = W.conv xb xs T a := ⟨_, rfl⟩
  obtain ⟨q, hqd⟩ : ∃ q, q = W.conv yb ys T b := ⟨_, rfl⟩
  rw [← hTd] at UP UQ hC
  rw [← hpd] at UP; rw [← hqd] at UQ
  have NP : Hid (Gives 76 #[W.ty xb xs, W.ty yb ys] (W.ty T S)) := fun w => by rw [hTd, hSd]; exact r7common_ok xb yb xs ys w
  have CA : Hid (Gives 38 #[.int .u64 a, W.ty xb xs, W.ty T S] (.int .u64 p)) := fun w => by rw [hpd]; exact r7convert a xb T xs S hx hC ha w
  have CB : Hid (Gives 38 #[.int .u64 b, W.ty yb ys, W.ty T S] (.int .u64 q)) := fun w => by rw [hqd]; exact r7convert b yb T ys S hy hC hb w
  have MA : Hid (∀ w : World, Calls Try.prog 53 #[.int .u64 p, W.ty T S] w (NewIo w (W.mn T p S))) := fun w => r7meant p T S hC UP w
  have MB : Hid (∀ w : World, Calls Try.prog 53 #[.int .u64 q, W.ty T S] w (NewIo w (W.mn T q S))) := fun w => r7meant q T S hC UQ w
  have CMP : ∀ (j : Int) (z : Bool), W.cmp j (W.less T S p q) (W.less T S q p) = z →
      (∀ w : World, Calls Try.prog 36 #[.int .i64 j, .int .u64 a, .int .u64 b, W.ty xb xs, W.ty yb ys] w fun e w' => e = .returned (.tuple #[.int .u64 (if W.cmp j (W.less T S p q) (W.less T S q p) then 1 else 0), .int .i64 0]) ∧ Below w.heap.size w w') →
      (∀ w : World, Calls Try.prog 41 #[.int .i64 j, .int .u64 a, .int .u64 b, W.ty xb xs, W.ty yb ys] w (BiR (if z then 1 else 0) 0 w)) → Both 36 41 #[.int .i64 j, .int .u64 a, .int .u64 b, W.ty xb xs, W.ty yb ys] := fun j z hz h1 h2 => by
    rw [hz] at h1; exact ⟨_, _, h1, h2⟩
  have less1 := W.less_mn T p q S
  have less2 := W.less_mn T q p S
  rcases (show k = 9 ∨ k = 10 ∨ k = 11 ∨ k = 12 ∨ k = 13 ∨ k = 14 ∨ k = 15 ∨ k = 16 ∨ k = 17 ∨ k = 18 ∨ k = 19 ∨ k = 20 ∨ k = 21 ∨ k = 22 ∨ k = 23 ∨ k = 24 by omega) with rfl | rfl | rfl | rfl | rfl | rfl | rfl | rfl | rfl | rfl | rfl | rfl | rfl | rfl | rfl | rfl
  · exact ⟨_, _, fun w => binary_mul a b xb yb T xs ys S hx hy hC hTd.symm hSd.symm ha hb p q hpd.symm hqd.symm w, fun w => r7binary_do9 a b xb yb T p q _ _ _ _ xs ys S RX RY NP CA CB MA MB (fun w => by rw [← W.mn_mul T p q S]; exact do_mul p q T S hC UP UQ w) w⟩
  · by_cases hz : q % W.md T = 0
    · exact ⟨_, _, fun w => binary_div0 a b xb yb T xs ys S hx hy hC hTd.symm hSd.symm ha hb p q hpd.symm hqd.symm hz w, fun w => r7binary_do10 a b xb yb T p q _ _ _ _ xs ys S RX RY NP CA CB MA MB (fun w => do_quo_zero p q T S hC UP UQ ((W.mn_zero T q S).2 hz) w) w⟩
    · exact ⟨_, _, fun w => binary_div a b xb yb T xs ys S hx hy hC hTd.symm hSd.symm ha hb p q hpd.symm hqd.symm hz w, fun w => r7binary_do10 a b xb yb T p q _ _ _ _ xs ys S RX RY NP CA CB MA MB (fun w => by rw [← W.mn_quo T p q S]; exact do_quo p q T S hC UP UQ (fun h => hz ((W.mn_zero T q S).1 h)) w) w⟩
  · by_cases hz : q % W.md T = 0
    · exact ⟨_, _, fun w => binary_rem0 a b xb yb T xs ys S hx hy hC hTd.symm hSd.symm ha hb p q hpd.symm hqd.symm hz w, fun w => r7binary_do11 a b xb yb T p q _ _ _ _ xs ys S RX RY NP CA CB MA MB (fun w => do_rem_zero p q T S hC UP UQ ((W.mn_zero T q S).2 hz) w) w⟩
    · exact ⟨_, _, fun w => binary_rem a b xb yb T xs ys S hx hy hC hTd.symm hSd.symm ha hb p q hpd.symm hqd.symm hz w, fun w => r7binary_do11 a b xb yb T p q _ _ _ _ xs ys S RX RY NP CA CB MA MB (fun w => by rw [← W.mn_rem T p q S]; exact do_rem p q T S hC UP UQ (fun h => hz ((W.mn_zero T q S).1 h)) w) w⟩
  · exact ⟨_, _, fun w => binary_add a b xb yb T xs ys S hx hy hC hTd.symm hSd.symm ha hb p q hpd.symm hqd.symm w, fun w => r7binary_do12 a b xb yb T p q _ _ _ _ xs ys S RX RY NP CA CB MA MB (fun w => by rw [← W.mn_add T p q S]; exact do_add p q T S hC UP UQ w) w⟩
  · exact ⟨_, _, fun w => binary_sub a b xb yb T xs ys S hx hy hC hTd.symm hSd.symm ha hb p q hpd.symm hqd.symm w, fun w => r7binary_do13 a b xb yb T p q _ _ _ _ xs ys S RX RY NP CA CB MA MB (fun w => by rw [← W.mn_sub T p q S]; exact do_sub p q T S hC UP UQ w) w⟩
  · have UA := W.conv_U xb xs (W.pb xb) a; have UN := W.conv_U yb ys 16 b
    exact ⟨_, _, fun w => binary_shift 14 a b xb yb (W.pb xb) _ _ _ xs ys (W.ps xb xs) (.inl rfl) VX VY (fun w => promote_ok xb xs w) (fun w => convert_ok a xb (W.pb xb) xs (W.ps xb xs) hx hT ha w) (fun w => convert_ok b yb 16 ys false hy o16 hb w)
        (fun _ w => (shl_ok _ _ (W.pb xb) hT UA UN.1 w).mono fun e w' ⟨h1, h2⟩ => ⟨h1, by rw [h2]; exact Ext.alloc (Below.refl _ _) _⟩) (fun h => by cases h) w,
      fun w => r7binary_sh14 a b xb yb (W.pb xb) _ _ _ xs ys (W.ps xb xs) RX RY (fun w => r7wide xb xs w) (fun w => r7convert a xb (W.pb xb) xs (W.ps xb xs) hx hT ha w) (fun w => r7convert b yb 16 ys false hy o16 hb w) (fun w => by rw [← W.mn_shl (W.pb xb) _ _ (W.ps xb xs)]; exact refShift_up _ _ (W.pb xb) (W.ps xb xs) hT UA UN.1 w) w⟩
  · have UA := W.conv_U xb xs (W.pb xb) a; have UN := W.conv_U yb ys 16 b
    exact ⟨_, _, fun w => binary_shift 15 a b xb yb (W.pb xb) _ _ _ xs ys (W.ps xb xs) (.inr rfl) VX VY (fun w => promote_ok xb xs w) (fun w => convert_ok a xb (W.pb xb) xs (W.ps xb xs) hx hT ha w) (fun w => convert_ok b yb 16 ys false hy o16 hb w)
        (fun h => by cases h) (fun _ w => (shr_any _ _ (W.pb xb) (W.ps xb xs) hT UA UN.1 w).mono fun e w' ⟨h1, h2⟩ => ⟨h1, h2 ▸ Below.refl _ _⟩) w,
      fun w => r7binary_sh15 a b xb yb (W.pb xb) _ _ _ xs ys (W.ps xb xs) RX RY (fun w => r7wide xb xs w) (fun w => r7convert a xb (W.pb xb) xs (W.ps xb xs) hx hT ha w) (fun w => r7convert b yb 16 ys false hy o16 hb w) (fun w => by rw [← W.mn_shr (W.pb xb) _ _ (W.ps xb xs)]; exact refShift_down _ _ (W.pb xb) (W.ps xb xs) hT UA UN.1 w) w⟩
  · exact CMP 16 _ rfl (fun w => binary_cmp16 a b xb yb T xs ys S hx hy hC hTd.symm hSd.symm ha hb p q hpd.symm hqd.symm w) (fun w => r7binary_cmp16 a b xb yb T p q _ _ xs ys S _ (by rw [cmpZ_lt, less1, less2]; rfl) RX RY NP CA CB MA MB w)
  · exact CMP 17 _ rfl (fun w => binary_cmp17 a b xb yb T xs ys S hx hy hC hTd.symm hSd.symm ha hb p q hpd.symm hqd.symm w) (fun w => r7binary_cmp17 a b xb yb T p q _ _ xs ys S _ (by rw [cmpZ_le, less1, less2]; rfl) RX RY NP CA CB MA MB w)
  · exact CMP 18 _ rfl (fun w => binary_cmp18 a b xb yb T xs ys S hx hy hC hTd.symm hSd.symm ha hb p q hpd.symm hqd.symm w) (fun w => r7binary_cmp18 a b xb yb T p q _ _ xs ys S _ (by rw [cmpZ_gt, less1, less2]; rfl) RX RY NP CA CB MA MB w)
  · exact CMP 19 _ rfl (fun w => binary_cmp19 a b xb yb T xs ys S hx hy hC hTd.symm hSd.symm ha hb p q hpd.symm hqd.symm w) (fun w => r7binary_cmp19 a b xb yb T p q _ _ xs ys S _ (by rw [cmpZ_ge', less1, less2]; rfl) RX RY NP CA CB MA MB w)
  · exact CMP 20 _ rfl (fun w => binary_cmp20 a b xb yb T xs ys S hx hy hC hTd.symm hSd.symm ha hb p q hpd.symm hqd.symm w) (fun w => r7binary_cmp20 a b xb yb T p q _ _ xs ys S _ (by rw [cmpZ_eq, less1, less2]; rfl) RX RY NP CA CB MA MB w)
  · exact CMP 21 _ rfl (fun w => binary_cmp21 a b xb yb T xs ys S hx hy hC hTd.symm hSd.symm ha hb p q hpd.symm hqd.symm w) (fun w => r7binary_cmp21 a b xb yb T p q _ _ xs ys S _ (by rw [cmpZ_ne, less1, less2]; rfl) RX RY NP CA CB MA MB w)
  · obtain ⟨p', rfl⟩ := Int.eq_ofNat_of_zero_le UP.1
    obtain ⟨q', rfl⟩ := Int.eq_ofNat_of_zero_le UQ.1
    have e := u64_and (p' : Int) (q' : Int) UP.1 UP.2 UQ.1 UQ.2
    exact ⟨_, _, fun w => binary_and a b xb yb T xs ys S hx hy hC hTd.symm hSd.symm ha hb _ _ hpd.symm hqd.symm w, fun w => by rw [e]; exact r7binary_bit22 a b xb yb T _ _ p' q' xs ys S (by have := UP.2; omega) (by have := UQ.2; omega) RX RY NP CA CB MA MB w⟩
  · obtain ⟨p', rfl⟩ := Int.eq_ofNat_of_zero_le UP.1
    obtain ⟨q', rfl⟩ := Int.eq_ofNat_of_zero_le UQ.1
    have e := u64_xor (p' : Int) (q' : Int) UP.1 UP.2 UQ.1 UQ.2
    exact ⟨_, _, fun w => binary_xor a b xb yb T xs ys S hx hy hC hTd.symm hSd.symm ha hb _ _ hpd.symm hqd.symm w, fun w => by rw [e]; exact r7binary_bit23 a b xb yb T _ _ p' q' xs ys S (by have := UP.2; omega) (by have := UQ.2; omega) RX RY NP CA CB MA MB w⟩
  · obtain ⟨p', rfl⟩ := Int.eq_ofNat_of_zero_le UP.1
    obtain ⟨q', rfl⟩ := Int.eq_ofNat_of_zero_le UQ.1
    have e := u64_or (p' : Int) (q' : Int) UP.1 UP.2 UQ.1 UQ.2
    exact ⟨_, _, fun w => binary_or a b xb yb T xs ys S hx hy hC hTd.symm hSd.symm ha hb _ _ hpd.symm hqd.symm w, fun w => by rw [e]; exact r7binary_bit24 a b xb yb T _ _ p' q' xs ys S (by have := UP.2; omega) (by have := UQ.2; omega) RX RY NP CA CB MA MB w⟩

def BothU (k a xb : Int) (xs : Bool) : Prop := ∃ (r b : Int) (s : Bool) (e : Int), (∀ w : World, Calls Try.prog 34 #[.int .i64 k, .int .u64 a, W.ty xb xs] w (UnR r b s e w)) ∧ ∀ w : World, Calls Try.prog 39 #[.int .i64 k, .int .u64 a, W.ty xb xs] w (UnR r b s e w)
theorem md_pb (b : Int) (h : W.ok b) : W.md b ≤ W.md (W.pb b) := by rcases h with rfl | rfl | rfl | rfl <;> decide
theorem W.mn_small (v x : Int) (s : Bool) : -(W.md v) < W.mn v x s ∧ W.mn v x s < W.md v := by
  have h1 := W.mod_lo x v; have h2 := W.mod_hi x v; have h3 := W.md_pos v
  unfold W.mn W.sg
  split
  · split <;> omega
  · omega
theorem both_un (k a xb : Int) (xs : Bool) (ha : W.U a) : BothU k a xb xs := by
  by_cases hx : ¬ W.ok xb
  · have e := W.okB_f hx
    exact ⟨0, 0, false, 1, fun w => unary_bad k a xb xs (fun w => by rw [← e]; exact valid_any xb xs w) w, fun w => r7unary_bad k a xb xs false (.inl rfl) (fun w => by rw [← e]; exact r7valid xb xs w) w⟩
  have hx : W.ok xb := Classical.byContradiction hx
  have e := W.okB_t hx
  have VX : Hid (Gives 57 #[W.ty xb xs] (.bool true)) := fun w => by rw [← e]; exact valid_any xb xs w
  have RX : Hid (Gives 32 #[W.ty xb xs] (.bool true)) := fun w => by rw [← e]; exact r7valid xb xs w
  have hT := W.pb_ok hx
  have NP : Hid (Gives 58 #[W.ty xb xs] (W.ty (W.pb xb) (W.ps xb xs))) := fun w => promote_ok xb xs w
  have RP : Hid (Gives 71 #[W.ty xb xs] (W.ty (W.pb xb) (W.ps xb xs))) := fun w => r7wide xb xs w
  have NC : Hid (Gives 33 #[.int .u64 a, W.ty xb xs, W.ty (W.pb xb) (W.ps xb xs)] (.int .u64 (W.conv xb xs (W.pb xb) a))) := fun w => convert_ok a xb (W.pb xb) xs (W.ps xb xs) hx hT ha w
  have NM : Hid (∀ w : World, Calls Try.prog 53 #[.int .u64 a, W.ty xb xs] w (NewIo w (W.mn xb a xs))) := fun w => r7meant a xb xs hx ha w
  have UC := W.conv_U xb xs (W.pb xb) a
  have hcm := W.conv_mn xb xs (W.pb xb) a
  have hbd := W.mn_bd xb a xs
  have hsm := W.mn_sm xb a xs
  have lnb : ∀ z : Int, z.natAbs ≤ 18446744073709551617 → N.ln z.natAbs ≤ 28 := fun z hz => N.ln_le (Nat.lt_of_le_of_lt hz (by decide))
  by_cases h6 : k = 6
  · subst h6
    refine ⟨_, _, _, _, fun w => unary_neg a xb (W.pb xb) _ _ xs (W.ps xb xs) hT UC rfl VX NP NC w, fun w => r7unary_neg a xb (W.pb xb) (W.mn xb a xs) _ xs (W.ps xb xs) hsm (lnb _ (by omega)) hT ?_ RX RP NM w⟩
    unfold W.sub; rw [hcm, Int.sub_emod, Int.emod_emod, ← Int.sub_emod, Int.zero_sub]
  by_cases h7 : k = 7
  · subst h7
    refine ⟨_, _, _, _, fun w => unary_not a xb (W.pb xb) _ _ xs (W.ps xb xs) hT UC rfl VX NP NC w, fun w => r7unary_not a xb (W.pb xb) (W.mn xb a xs) _ xs (W.ps xb xs) hsm (lnb _ (by omega)) hT ?_ RX RP NM w⟩
    unfold W.cut; rw [hcm]
    have hd := W.md_dvd (W.pb xb)
    obtain ⟨c, hc⟩ := hd
    rw [show (18446744073709551615 : Int) - W.mn xb a xs % W.md (W.pb xb) = (-1 - W.mn xb a xs % W.md (W.pb xb)) + W.md (W.pb xb) * c by omega, Int.add_mul_emod_self_left]
    have e9 : (-1 - W.mn xb a xs % W.md (W.pb xb)) % W.md (W.pb xb) = (-1 - W.mn xb a xs) % W.md (W.pb xb) := by rw [Int.sub_emod, Int.emod_emod, ← Int.sub_emod]
    rw [e9]; congr 1; omega
  by_cases h8 : k = 8
  · subst h8
    have hz : (W.conv xb xs (W.pb xb) a == 0) = decide (W.mn xb a xs = 0) := by
      rw [hcm, Bool.eq_iff_iff]
      simp only [beq_iff_eq, decide_eq_true_eq]
      have hs := W.mn_small xb a xs; have hm := md_pb xb hx
      constructor
      · intro h
        obtain ⟨c, hc⟩ := Int.dvd_of_emod_eq_zero h
        rcases Int.lt_trichotomy c 0 with h1 | h1 | h1
        · exfalso
          have : W.md (W.pb xb) * c ≤ W.md (W.pb xb) * (-1) := Int.mul_le_mul_of_nonneg_left (by omega) (Int.le_of_lt (W.md_pos _))
          omega
        · rw [hc, h1, Int.mul_zero]
        · exfalso
          have : W.md (W.pb xb) * 1 ≤ W.md (W.pb xb) * c := Int.mul_le_mul_of_nonneg_left (by omega) (Int.le_of_lt (W.md_pos _))
          omega
      · intro h; rw [h, Int.zero_emod]
    exact ⟨_, _, _, _, fun w => unary_log a xb (W.pb xb) _ xs (W.ps xb xs) _ hz VX NP NC w, fun w => r7unary_log a xb (W.pb xb) (W.mn xb a xs) xs (W.ps xb xs) _ rfl RX RP NM w⟩
  · exact ⟨_, _, _, _, fun w => unary_else k a xb (W.pb xb) _ xs (W.ps xb xs) (by simpa using h6) (by simpa using h7) (by simpa using h8) VX NP NC w, fun w => r7unary_bad k a xb xs true (by omega) RX w⟩
end Go.Proofs.Ytkmcniaaecijdaa
