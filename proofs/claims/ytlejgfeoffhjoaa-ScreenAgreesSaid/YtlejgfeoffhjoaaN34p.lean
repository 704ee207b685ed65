/- A side's told copy, and whether two are alike. -/
import Derived.Test.YtlejgfeoffhjoaaFwLem
import Derived.Test.YtlejgfeoffhjoaaF34i
namespace Go.Proofs.Ytlejgfeoffhjoaa.D
open Go.Fw Go.RowKit
theorem f11 : E.funcs 11 = some Try.f11 := by kernel_rfl
theorem ice_dvs {hp : Heap} {b1 b2 n1 n2 c1 c2 : Nat} (r m : List ByteArray) (i j : Int) (hn : n1 = r.length) (hm : n2 = m.length) (h1 : hp.get b1 = some (sB r)) (h2 : hp.get b2 = some (sB m)) :
    iceV E hp (.agg #[.slice (some ⟨b1, 0, none⟩) n1 c1, .slice (some ⟨b2, 0, none⟩) n2 c2, .int .i64 i, .int .i64 j]) = some (dv 0 0 r m i j) := ice_dv r m i j hn hm h1 h2
theorem to11 (x y : Nat) (r m : List ByteArray) (i j : Int) (h2 : r.length ≤ 8796093022208) (h4 : m.length ≤ 8796093022208) : Fun E 11 [dv x y r m i j] (dv 0 0 r m i j) := by
  refine Fun.of f11 rfl (of_decide_eq_true (by kernel_rfl)) rfl ?_
  by_cases hr : r = []
  · subst hr
    by_cases hm : m = []
    · subst hm
      unfold dv strs
      simp only [List.length_nil, List.map_nil]
      refine Wp.seq (Wp.text ?_)
      refine md 1 (.pointer (some ⟨0, 0, none⟩)) (Blk.mk 24 true [Value.iface 9 (Value.iface 0 (Value.iface x (Value.agg #[]))), Value.iface 9 (Value.iface 0 (Value.iface y (Value.agg #[]))), Value.int .i64 i, Value.int .i64 j]) ?_
      refine md 2 (.pointer (some ⟨1, 0, none⟩)) (Blk.mk 30 true [Value.slice none 0 0, Value.slice none 0 0, Value.int .i64 0, Value.int .i64 0]) ?_
      refine WpOps.nil (thenK_at (Wp.seq ?_))
      refine Wp.regionD [(0, 4), (3, 4)] [[0, 1, 2, 3, 4, 5, 6, 7, 8, 9, 10, 11, 12, 13], [0, 1, 2, 4, 3, 5, 6, 7, 8, 9, 10, 11, 12, 13], [1, 2, 4, 0, 3, 5, 6, 7, 8, 9, 10, 11, 12, 13]] (by kernel_rfl) (by kernel_rfl) [(2, .pointer (some ⟨0, 0, none⟩))] [⟨30, true, [.slice (some ⟨1, 0, none⟩) 0 0, .slice (some ⟨2, 0, none⟩) 0 0, .int .i64 i, .int .i64 j]⟩, sB [], sB []] (allC ?_ (allC ?_ (all1 ?_))) ?_
      rotate_right
      · refine thenK_at (Wp.ret ?_)
        refine endK_retn [Value.agg #[Value.slice (some (Addr.mk 1 0 none)) 0 0, Value.slice (some (Addr.mk 2 0 none)) 0 0, Value.int IntKind.i64 i, Value.int IntKind.i64 j]] (Value.agg #[Value.slice (some (Addr.mk 1 0 none)) 0 0, Value.slice (some (Addr.mk 2 0 none)) 0 0, Value.int IntKind.i64 i, Value.int IntKind.i64 j]) (by kernel_rfl) (by kernel_rfl) ?_
        exact ice_dvs [] [] i j rfl rfl (by kernel_rfl) (by kernel_rfl)
      · refine md 3 (.slice (some ⟨2, 0, none⟩) 0 0) (Blk.mk 9 true []) ?_
        refine kp 4 (.pointer (some ⟨0, 0, none⟩)) ?_
        refine kp 5 (.iface 9 (Value.iface 0 (Value.iface x (Value.agg #[])))) ?_
        refine kp 6 (.slice (some ⟨2, 0, none⟩) 0 0) ?_
        refine md 7 (.slice (some ⟨3, 0, none⟩) 0 0) (Blk.mk 9 true []) ?_
        refine kp 8 (.pointer (some ⟨0, 1, none⟩)) ?_
        refine kp 9 (.iface 9 (Value.iface 0 (Value.iface y (Value.agg #[])))) ?_
        refine kp 10 (.slice (some ⟨3, 0, none⟩) 0 0) ?_
        refine kp 11 (.pointer (some ⟨0, 2, none⟩)) ?_
        refine kp 12 (.int IntKind.i64 i) ?_
        refine kp 13 (.pointer (some ⟨0, 3, none⟩)) ?_
        refine kp 14 (.int IntKind.i64 j) ?_
        refine kp 15 (.agg #[Value.slice (some ⟨2, 0, none⟩) 0 0, Value.slice (some ⟨3, 0, none⟩) 0 0, Value.int .i64 i, Value.int .i64 j]) ?_
        refine ld (.tuple #[]) (1) (Blk.mk 30 true [Value.slice (some ⟨2, 0, none⟩) 0 0, Value.slice (some ⟨3, 0, none⟩) 0 0, Value.int .i64 i, Value.int .i64 j]) ?_
        refine WpOps.nil ?_
        refine ⟨by kernel_rfl, ?_⟩
        exact View.of [1, 2, 3] [⟨30, true, [.slice (some ⟨1, 0, none⟩) 0 0, .slice (some ⟨2, 0, none⟩) 0 0, .int .i64 i, .int .i64 j]⟩, sB [], sB []] _ (by decide) rfl ⟨⟨[.slice (some ⟨2, 0, none⟩) 0 0, .slice (some ⟨3, 0, none⟩) 0 0, .int .i64 i, .int .i64 j], by simp only [Nat.zero_add]; kernel_rfl, ⟨by kernel_rfl, by kernel_rfl⟩⟩, ⟨_, by kernel_rfl, CellsOk.eq rfl rfl⟩, ⟨_, by kernel_rfl, CellsOk.eq rfl rfl⟩, trivial⟩ ⟨⟨by kernel_rfl, rfl⟩, trivial⟩
      · refine md 3 (.slice (some ⟨2, 0, none⟩) 0 0) (Blk.mk 9 true []) ?_
        refine kp 4 (.pointer (some ⟨0, 0, none⟩)) ?_
        refine kp 5 (.iface 9 (Value.iface 0 (Value.iface x (Value.agg #[])))) ?_
        refine md 7 (.slice (some ⟨3, 0, none⟩) 0 0) (Blk.mk 9 true []) ?_
        refine kp 6 (.slice (some ⟨2, 0, none⟩) 0 0) ?_
        refine kp 8 (.pointer (some ⟨0, 1, none⟩)) ?_
        refine kp 9 (.iface 9 (Value.iface 0 (Value.iface y (Value.agg #[])))) ?_
        refine kp 10 (.slice (some ⟨3, 0, none⟩) 0 0) ?_
        refine kp 11 (.pointer (some ⟨0, 2, none⟩)) ?_
        refine kp 12 (.int IntKind.i64 i) ?_
        refine kp 13 (.pointer (some ⟨0, 3, none⟩)) ?_
        refine kp 14 (.int IntKind.i64 j) ?_
        refine kp 15 (.agg #[Value.slice (some ⟨2, 0, none⟩) 0 0, Value.slice (some ⟨3, 0, none⟩) 0 0, Value.int .i64 i, Value.int .i64 j]) ?_
        refine ld (.tuple #[]) (1) (Blk.mk 30 true [Value.slice (some ⟨2, 0, none⟩) 0 0, Value.slice (some ⟨3, 0, none⟩) 0 0, Value.int .i64 i, Value.int .i64 j]) ?_
        refine WpOps.nil ?_
        refine ⟨by kernel_rfl, ?_⟩
        exact View.of [1, 2, 3] [⟨30, true, [.slice (some ⟨1, 0, none⟩) 0 0, .slice (some ⟨2, 0, none⟩) 0 0, .int .i64 i, .int .i64 j]⟩, sB [], sB []] _ (by decide) rfl ⟨⟨[.slice (some ⟨2, 0, none⟩) 0 0, .slice (some ⟨3, 0, none⟩) 0 0, .int .i64 i, .int .i64 j], by simp only [Nat.zero_add]; kernel_rfl, ⟨by kernel_rfl, by kernel_rfl⟩⟩, ⟨_, by kernel_rfl, CellsOk.eq rfl rfl⟩, ⟨_, by kernel_rfl, CellsOk.eq rfl rfl⟩, trivial⟩ ⟨⟨by kernel_rfl, rfl⟩, trivial⟩
      · refine kp 4 (.pointer (some ⟨0, 0, none⟩)) ?_
        refine kp 5 (.iface 9 (Value.iface 0 (Value.iface x (Value.agg #[])))) ?_
        refine md 7 (.slice (some ⟨2, 0, none⟩) 0 0) (Blk.mk 9 true []) ?_
        refine md 3 (.slice (some ⟨3, 0, none⟩) 0 0) (Blk.mk 9 true []) ?_
        refine kp 6 (.slice (some ⟨3, 0, none⟩) 0 0) ?_
        refine kp 8 (.pointer (some ⟨0, 1, none⟩)) ?_
        refine kp 9 (.iface 9 (Value.iface 0 (Value.iface y (Value.agg #[])))) ?_
        refine kp 10 (.slice (some ⟨2, 0, none⟩) 0 0) ?_
        refine kp 11 (.pointer (some ⟨0, 2, none⟩)) ?_
        refine kp 12 (.int IntKind.i64 i) ?_
        refine kp 13 (.pointer (some ⟨0, 3, none⟩)) ?_
        refine kp 14 (.int IntKind.i64 j) ?_
        refine kp 15 (.agg #[Value.slice (some ⟨3, 0, none⟩) 0 0, Value.slice (some ⟨2, 0, none⟩) 0 0, Value.int .i64 i, Value.int .i64 j]) ?_
        refine ld (.tuple #[]) (1) (Blk.mk 30 true [Value.slice (some ⟨3, 0, none⟩) 0 0, Value.slice (some ⟨2, 0, none⟩) 0 0, Value.int .i64 i, Value.int .i64 j]) ?_
        refine WpOps.nil ?_
        refine ⟨by kernel_rfl, ?_⟩
        exact View.of [1, 3, 2] [⟨30, true, [.slice (some ⟨1, 0, none⟩) 0 0, .slice (some ⟨2, 0, none⟩) 0 0, .int .i64 i, .int .i64 j]⟩, sB [], sB []] _ (by decide) rfl ⟨⟨[.slice (some ⟨3, 0, none⟩) 0 0, .slice (some ⟨2, 0, none⟩) 0 0, .int .i64 i, .int .i64 j], by simp only [Nat.zero_add]; kernel_rfl, ⟨by kernel_rfl, by kernel_rfl⟩⟩, ⟨_, by kernel_rfl, CellsOk.eq rfl rfl⟩, ⟨_, by kernel_rfl, CellsOk.eq rfl rfl⟩, trivial⟩ ⟨⟨by kernel_rfl, rfl⟩, trivial⟩
    have hm1 : 1 ≤ m.length := List.length_pos_iff.2 hm
    have a3 : ¬ (0 + m.length ≤ 0) := by omega
    have a4 : 1 ≤ 16 ∧ (0 + m.length) * 16 ≤ 140737488355328 ∧ 1 = 1 ∧ 0 + m.length ≤ 9223372036854775807 := by omega
    have fl2 := strs_flat m
    unfold dv strs
    simp only [List.length_nil, List.map_nil]
    refine Wp.seq (Wp.text ?_)
    refine md 1 (.pointer (some ⟨0, 0, none⟩)) (Blk.mk 24 true [Value.iface 9 (Value.iface 0 (Value.iface x (Value.agg #[]))), strs y m, Value.int .i64 i, Value.int .i64 j]) ?_
    refine md 2 (.pointer (some ⟨1, 0, none⟩)) (Blk.mk 30 true [Value.slice none 0 0, Value.slice none 0 0, Value.int .i64 0, Value.int .i64 0]) ?_
    refine WpOps.nil (thenK_at (Wp.seq ?_))
    refine Wp.regionD [(0, 4), (3, 4)] [[0, 1, 2, 3, 4, 5, 6, 7, 8, 9, 10, 11, 12, 13], [0, 1, 2, 4, 3, 5, 6, 7, 8, 9, 10, 11, 12, 13], [1, 2, 4, 0, 3, 5, 6, 7, 8, 9, 10, 11, 12, 13]] (by kernel_rfl) (by kernel_rfl) [(2, .pointer (some ⟨0, 0, none⟩))] [⟨30, true, [.slice (some ⟨1, 0, none⟩) 0 0, .slice (some ⟨2, 0, none⟩) m.length m.length, .int .i64 i, .int .i64 j]⟩, sB [], sB m] (allC ?_ (allC ?_ (all1 ?_))) ?_
    rotate_right
    · refine thenK_at (Wp.ret ?_)
      refine endK_retn [Value.agg #[Value.slice (some (Addr.mk 1 0 none)) 0 0, Value.slice (some (Addr.mk 2 0 none)) (List.length m) (List.length m), Value.int IntKind.i64 i, Value.int IntKind.i64 j]] (Value.agg #[Value.slice (some (Addr.mk 1 0 none)) 0 0, Value.slice (some (Addr.mk 2 0 none)) (List.length m) (List.length m), Value.int IntKind.i64 i, Value.int IntKind.i64 j]) (by kernel_rfl) (by kernel_rfl) ?_
      exact ice_dvs [] m i j rfl rfl (by kernel_rfl) (by kernel_rfl)
    · refine md 3 (.slice (some ⟨2, 0, none⟩) 0 0) (Blk.mk 9 true []) ?_
      refine kp 4 (.pointer (some ⟨0, 0, none⟩)) ?_
      refine kp 5 (.iface 9 (Value.iface 0 (Value.iface x (Value.agg #[])))) ?_
      refine kp 6 (.slice (some ⟨2, 0, none⟩) 0 0) ?_
      refine md 7 (.slice (some ⟨3, 0, none⟩) 0 0) (Blk.mk 9 true []) ?_
      refine kp 8 (.pointer (some ⟨0, 1, none⟩)) ?_
      refine kp 9 (.iface 9 (Value.iface (List.length m) (Value.iface y (Value.agg (List.toArray (List.map Value.string m)))))) ?_
      refine ra 10 (.slice (some ⟨4, 0, none⟩) (0 + List.length m) (0 + List.length m)) (3) (Blk.mk 9 true ([] ++ Array.toList (List.toArray (List.map Value.string m)))) ?_ (hop := fun _ => o_append (e := 9) 3 (0) (0) _ (0) a3 a4)
      refine kp 11 (.pointer (some ⟨0, 2, none⟩)) ?_
      refine kp 12 (.int IntKind.i64 i) ?_
      refine kp 13 (.pointer (some ⟨0, 3, none⟩)) ?_
      refine kp 14 (.int IntKind.i64 j) ?_
      refine kp 15 (.agg #[Value.slice (some ⟨2, 0, none⟩) 0 0, Value.slice (some ⟨4, 0, none⟩) (0 + List.length m) (0 + List.length m), Value.int .i64 i, Value.int .i64 j]) ?_
      refine ld (.tuple #[]) (1) (Blk.mk 30 true [Value.slice (some ⟨2, 0, none⟩) 0 0, Value.slice (some ⟨4, 0, none⟩) (0 + List.length m) (0 + List.length m), Value.int .i64 i, Value.int .i64 j]) ?_
      refine WpOps.nil ?_
      refine ⟨by kernel_rfl, ?_⟩
      exact View.of [1, 2, 4] [⟨30, true, [.slice (some ⟨1, 0, none⟩) 0 0, .slice (some ⟨2, 0, none⟩) m.length m.length, .int .i64 i, .int .i64 j]⟩, sB [], sB m] _ (by decide) rfl ⟨⟨[.slice (some ⟨2, 0, none⟩) 0 0, .slice (some ⟨4, 0, none⟩) m.length m.length, .int .i64 i, .int .i64 j], by simp only [Nat.zero_add]; kernel_rfl, ⟨by kernel_rfl, by kernel_rfl⟩⟩, ⟨_, by kernel_rfl, CellsOk.eq rfl rfl⟩, ⟨_, by kernel_rfl, CellsOk.eq rfl fl2⟩, trivial⟩ ⟨⟨by kernel_rfl, rfl⟩, trivial⟩
    · refine md 3 (.slice (some ⟨2, 0, none⟩) 0 0) (Blk.mk 9 true []) ?_
      refine kp 4 (.pointer (some ⟨0, 0, none⟩)) ?_
      refine kp 5 (.iface 9 (Value.iface 0 (Value.iface x (Value.agg #[])))) ?_
      refine md 7 (.slice (some ⟨3, 0, none⟩) 0 0) (Blk.mk 9 true []) ?_
      refine kp 6 (.slice (some ⟨2, 0, none⟩) 0 0) ?_
      refine kp 8 (.pointer (some ⟨0, 1, none⟩)) ?_
      refine kp 9 (.iface 9 (Value.iface (List.length m) (Value.iface y (Value.agg (List.toArray (List.map Value.string m)))))) ?_
      refine ra 10 (.slice (some ⟨4, 0, none⟩) (0 + List.length m) (0 + List.length m)) (3) (Blk.mk 9 true ([] ++ Array.toList (List.toArray (List.map Value.string m)))) ?_ (hop := fun _ => o_append (e := 9) 3 (0) (0) _ (0) a3 a4)
      refine kp 11 (.pointer (some ⟨0, 2, none⟩)) ?_
      refine kp 12 (.int IntKind.i64 i) ?_
      refine kp 13 (.pointer (some ⟨0, 3, none⟩)) ?_
      refine kp 14 (.int IntKind.i64 j) ?_
      refine kp 15 (.agg #[Value.slice (some ⟨2, 0, none⟩) 0 0, Value.slice (some ⟨4, 0, none⟩) (0 + List.length m) (0 + List.length m), Value.int .i64 i, Value.int .i64 j]) ?_
      refine ld (.tuple #[]) (1) (Blk.mk 30 true [Value.slice (some ⟨2, 0, none⟩) 0 0, Value.slice (some ⟨4, 0, none⟩) (0 + List.length m) (0 + List.length m), Value.int .i64 i, Value.int .i64 j]) ?_
      refine WpOps.nil ?_
      refine ⟨by kernel_rfl, ?_⟩
      exact View.of [1, 2, 4] [⟨30, true, [.slice (some ⟨1, 0, none⟩) 0 0, .slice (some ⟨2, 0, none⟩) m.length m.length, .int .i64 i, .int .i64 j]⟩, sB [], sB m] _ (by decide) rfl ⟨⟨[.slice (some ⟨2, 0, none⟩) 0 0, .slice (some ⟨4, 0, none⟩) m.length m.length, .int .i64 i, .int .i64 j], by simp only [Nat.zero_add]; kernel_rfl, ⟨by kernel_rfl, by kernel_rfl⟩⟩, ⟨_, by kernel_rfl, CellsOk.eq rfl rfl⟩, ⟨_, by kernel_rfl, CellsOk.eq rfl fl2⟩, trivial⟩ ⟨⟨by kernel_rfl, rfl⟩, trivial⟩
    · refine kp 4 (.pointer (some ⟨0, 0, none⟩)) ?_
      refine kp 5 (.iface 9 (Value.iface 0 (Value.iface x (Value.agg #[])))) ?_
      refine md 7 (.slice (some ⟨2, 0, none⟩) 0 0) (Blk.mk 9 true []) ?_
      refine md 3 (.slice (some ⟨3, 0, none⟩) 0 0) (Blk.mk 9 true []) ?_
      refine kp 6 (.slice (some ⟨3, 0, none⟩) 0 0) ?_
      refine kp 8 (.pointer (some ⟨0, 1, none⟩)) ?_
      refine kp 9 (.iface 9 (Value.iface (List.length m) (Value.iface y (Value.agg (List.toArray (List.map Value.string m)))))) ?_
      refine ra 10 (.slice (some ⟨4, 0, none⟩) (0 + List.length m) (0 + List.length m)) (2) (Blk.mk 9 true ([] ++ Array.toList (List.toArray (List.map Value.string m)))) ?_ (hop := fun _ => o_append (e := 9) 2 (0) (0) _ (0) a3 a4)
      refine kp 11 (.pointer (some ⟨0, 2, none⟩)) ?_
      refine kp 12 (.int IntKind.i64 i) ?_
      refine kp 13 (.pointer (some ⟨0, 3, none⟩)) ?_
      refine kp 14 (.int IntKind.i64 j) ?_
      refine kp 15 (.agg #[Value.slice (some ⟨3, 0, none⟩) 0 0, Value.slice (some ⟨4, 0, none⟩) (0 + List.length m) (0 + List.length m), Value.int .i64 i, Value.int .i64 j]) ?_
      refine ld (.tuple #[]) (1) (Blk.mk 30 true [Value.slice (some ⟨3, 0, none⟩) 0 0, Value.slice (some ⟨4, 0, none⟩) (0 + List.length m) (0 + List.length m), Value.int .i64 i, Value.int .i64 j]) ?_
      refine WpOps.nil ?_
      refine ⟨by kernel_rfl, ?_⟩
      exact View.of [1, 3, 4] [⟨30, true, [.slice (some ⟨1, 0, none⟩) 0 0, .slice (some ⟨2, 0, none⟩) m.length m.length, .int .i64 i, .int .i64 j]⟩, sB [], sB m] _ (by decide) rfl ⟨⟨[.slice (some ⟨3, 0, none⟩) 0 0, .slice (some ⟨4, 0, none⟩) m.length m.length, .int .i64 i, .int .i64 j], by simp only [Nat.zero_add]; kernel_rfl, ⟨by kernel_rfl, by kernel_rfl⟩⟩, ⟨_, by kernel_rfl, CellsOk.eq rfl rfl⟩, ⟨_, by kernel_rfl, CellsOk.eq rfl fl2⟩, trivial⟩ ⟨⟨by kernel_rfl, rfl⟩, trivial⟩
  have hr1 : 1 ≤ r.length := List.length_pos_iff.2 hr
  by_cases hm : m = []
  · subst hm
    have a1 : ¬ (0 + r.length ≤ 0) := by omega
    have a2 : 1 ≤ 16 ∧ (0 + r.length) * 16 ≤ 140737488355328 ∧ 1 = 1 ∧ 0 + r.length ≤ 9223372036854775807 := by omega
    have fl1 := strs_flat r
    unfold dv strs
    simp only [List.length_nil, List.map_nil]
    refine Wp.seq (Wp.text ?_)
    refine md 1 (.pointer (some ⟨0, 0, none⟩)) (Blk.mk 24 true [strs x r, Value.iface 9 (Value.iface 0 (Value.iface y (Value.agg #[]))), Value.int .i64 i, Value.int .i64 j]) ?_
    refine md 2 (.pointer (some ⟨1, 0, none⟩)) (Blk.mk 30 true [Value.slice none 0 0, Value.slice none 0 0, Value.int .i64 0, Value.int .i64 0]) ?_
    refine WpOps.nil (thenK_at (Wp.seq ?_))
    refine Wp.regionD [(0, 4), (3, 4)] [[0, 1, 2, 3, 4, 5, 6, 7, 8, 9, 10, 11, 12, 13], [0, 1, 2, 4, 3, 5, 6, 7, 8, 9, 10, 11, 12, 13], [1, 2, 4, 0, 3, 5, 6, 7, 8, 9, 10, 11, 12, 13]] (by kernel_rfl) (by kernel_rfl) [(2, .pointer (some ⟨0, 0, none⟩))] [⟨30, true, [.slice (some ⟨1, 0, none⟩) r.length r.length, .slice (some ⟨2, 0, none⟩) 0 0, .int .i64 i, .int .i64 j]⟩, sB r, sB []] (allC ?_ (allC ?_ (all1 ?_))) ?_
    rotate_right
    · refine thenK_at (Wp.ret ?_)
      refine endK_retn [Value.agg #[Value.slice (some (Addr.mk 1 0 none)) (List.length r) (List.length r), Value.slice (some (Addr.mk 2 0 none)) 0 0, Value.int IntKind.i64 i, Value.int IntKind.i64 j]] (Value.agg #[Value.slice (some (Addr.mk 1 0 none)) (List.length r) (List.length r), Value.slice (some (Addr.mk 2 0 none)) 0 0, Value.int IntKind.i64 i, Value.int IntKind.i64 j]) (by kernel_rfl) (by kernel_rfl) ?_
      exact ice_dvs r [] i j rfl rfl (by kernel_rfl) (by kernel_rfl)
    · refine md 3 (.slice (some ⟨2, 0, none⟩) 0 0) (Blk.mk 9 true []) ?_
      refine kp 4 (.pointer (some ⟨0, 0, none⟩)) ?_
      refine kp 5 (.iface 9 (Value.iface (List.length r) (Value.iface x (Value.agg (List.toArray (List.map Value.string r)))))) ?_
      refine ra 6 (.slice (some ⟨3, 0, none⟩) (0 + List.length r) (0 + List.length r)) (2) (Blk.mk 9 true ([] ++ Array.toList (List.toArray (List.map Value.string r)))) ?_ (hop := fun _ => o_append (e := 9) 2 (0) (0) _ (0) a1 a2)
      refine md 7 (.slice (some ⟨4, 0, none⟩) 0 0) (Blk.mk 9 true []) ?_
      refine kp 8 (.pointer (some ⟨0, 1, none⟩)) ?_
      refine kp 9 (.iface 9 (Value.iface 0 (Value.iface y (Value.agg #[])))) ?_
      refine kp 10 (.slice (some ⟨4, 0, none⟩) 0 0) ?_
      refine kp 11 (.pointer (some ⟨0, 2, none⟩)) ?_
      refine kp 12 (.int IntKind.i64 i) ?_
      refine kp 13 (.pointer (some ⟨0, 3, none⟩)) ?_
      refine kp 14 (.int IntKind.i64 j) ?_
      refine kp 15 (.agg #[Value.slice (some ⟨3, 0, none⟩) (0 + List.length r) (0 + List.length r), Value.slice (some ⟨4, 0, none⟩) 0 0, Value.int .i64 i, Value.int .i64 j]) ?_
      refine ld (.tuple #[]) (1) (Blk.mk 30 true [Value.slice (some ⟨3, 0, none⟩) (0 + List.length r) (0 + List.length r), Value.slice (some ⟨4, 0, none⟩) 0 0, Value.int .i64 i, Value.int .i64 j]) ?_
      refine WpOps.nil ?_
      refine ⟨by kernel_rfl, ?_⟩
      exact View.of [1, 3, 4] [⟨30, true, [.slice (some ⟨1, 0, none⟩) r.length r.length, .slice (some ⟨2, 0, none⟩) 0 0, .int .i64 i, .int .i64 j]⟩, sB r, sB []] _ (by decide) rfl ⟨⟨[.slice (some ⟨3, 0, none⟩) r.length r.length, .slice (some ⟨4, 0, none⟩) 0 0, .int .i64 i, .int .i64 j], by simp only [Nat.zero_add]; kernel_rfl, ⟨by kernel_rfl, by kernel_rfl⟩⟩, ⟨_, by kernel_rfl, CellsOk.eq rfl fl1⟩, ⟨_, by kernel_rfl, CellsOk.eq rfl rfl⟩, trivial⟩ ⟨⟨by kernel_rfl, rfl⟩, trivial⟩
    · refine md 3 (.slice (some ⟨2, 0, none⟩) 0 0) (Blk.mk 9 true []) ?_
      refine kp 4 (.pointer (some ⟨0, 0, none⟩)) ?_
      refine kp 5 (.iface 9 (Value.iface (List.length r) (Value.iface x (Value.agg (List.toArray (List.map Value.string r)))))) ?_
      refine md 7 (.slice (some ⟨3, 0, none⟩) 0 0) (Blk.mk 9 true []) ?_
      refine ra 6 (.slice (some ⟨4, 0, none⟩) (0 + List.length r) (0 + List.length r)) (2) (Blk.mk 9 true ([] ++ Array.toList (List.toArray (List.map Value.string r)))) ?_ (hop := fun _ => o_append (e := 9) 2 (0) (0) _ (0) a1 a2)
      refine kp 8 (.pointer (some ⟨0, 1, none⟩)) ?_
      refine kp 9 (.iface 9 (Value.iface 0 (Value.iface y (Value.agg #[])))) ?_
      refine kp 10 (.slice (some ⟨3, 0, none⟩) 0 0) ?_
      refine kp 11 (.pointer (some ⟨0, 2, none⟩)) ?_
      refine kp 12 (.int IntKind.i64 i) ?_
      refine kp 13 (.pointer (some ⟨0, 3, none⟩)) ?_
      refine kp 14 (.int IntKind.i64 j) ?_
      refine kp 15 (.agg #[Value.slice (some ⟨4, 0, none⟩) (0 + List.length r) (0 + List.length r), Value.slice (some ⟨3, 0, none⟩) 0 0, Value.int .i64 i, Value.int .i64 j]) ?_
      refine ld (.tuple #[]) (1) (Blk.mk 30 true [Value.slice (some ⟨4, 0, none⟩) (0 + List.length r) (0 + List.length r), Value.slice (some ⟨3, 0, none⟩) 0 0, Value.int .i64 i, Value.int .i64 j]) ?_
      refine WpOps.nil ?_
      refine ⟨by kernel_rfl, ?_⟩
      exact View.of [1, 4, 3] [⟨30, true, [.slice (some ⟨1, 0, none⟩) r.length r.length, .slice (some ⟨2, 0, none⟩) 0 0, .int .i64 i, .int .i64 j]⟩, sB r, sB []] _ (by decide) rfl ⟨⟨[.slice (some ⟨4, 0, none⟩) r.length r.length, .slice (some ⟨3, 0, none⟩) 0 0, .int .i64 i, .int .i64 j], by simp only [Nat.zero_add]; kernel_rfl, ⟨by kernel_rfl, by kernel_rfl⟩⟩, ⟨_, by kernel_rfl, CellsOk.eq rfl fl1⟩, ⟨_, by kernel_rfl, CellsOk.eq rfl rfl⟩, trivial⟩ ⟨⟨by kernel_rfl, rfl⟩, trivial⟩
    · refine kp 4 (.pointer (some ⟨0, 0, none⟩)) ?_
      refine kp 5 (.iface 9 (Value.iface (List.length r) (Value.iface x (Value.agg (List.toArray (List.map Value.string r)))))) ?_
      refine md 7 (.slice (some ⟨2, 0, none⟩) 0 0) (Blk.mk 9 true []) ?_
      refine md 3 (.slice (some ⟨3, 0, none⟩) 0 0) (Blk.mk 9 true []) ?_
      refine ra 6 (.slice (some ⟨4, 0, none⟩) (0 + List.length r) (0 + List.length r)) (3) (Blk.mk 9 true ([] ++ Array.toList (List.toArray (List.map Value.string r)))) ?_ (hop := fun _ => o_append (e := 9) 3 (0) (0) _ (0) a1 a2)
      refine kp 8 (.pointer (some ⟨0, 1, none⟩)) ?_
      refine kp 9 (.iface 9 (Value.iface 0 (Value.iface y (Value.agg #[])))) ?_
      refine kp 10 (.slice (some ⟨2, 0, none⟩) 0 0) ?_
      refine kp 11 (.pointer (some ⟨0, 2, none⟩)) ?_
      refine kp 12 (.int IntKind.i64 i) ?_
      refine kp 13 (.pointer (some ⟨0, 3, none⟩)) ?_
      refine kp 14 (.int IntKind.i64 j) ?_
      refine kp 15 (.agg #[Value.slice (some ⟨4, 0, none⟩) (0 + List.length r) (0 + List.length r), Value.slice (some ⟨2, 0, none⟩) 0 0, Value.int .i64 i, Value.int .i64 j]) ?_
      refine ld (.tuple #[]) (1) (Blk.mk 30 true [Value.slice (some ⟨4, 0, none⟩) (0 + List.length r) (0 + List.length r), Value.slice (some ⟨2, 0, none⟩) 0 0, Value.int .i64 i, Value.int .i64 j]) ?_
      refine WpOps.nil ?_
      refine ⟨by kernel_rfl, ?_⟩
      exact View.of [1, 4, 2] [⟨30, true, [.slice (some ⟨1, 0, none⟩) r.length r.length, .slice (some ⟨2, 0, none⟩) 0 0, .int .i64 i, .int .i64 j]⟩, sB r, sB []] _ (by decide) rfl ⟨⟨[.slice (some ⟨4, 0, none⟩) r.length r.length, .slice (some ⟨2, 0, none⟩) 0 0, .int .i64 i, .int .i64 j], by simp only [Nat.zero_add]; kernel_rfl, ⟨by kernel_rfl, by kernel_rfl⟩⟩, ⟨_, by kernel_rfl, CellsOk.eq rfl fl1⟩, ⟨_, by kernel_rfl, CellsOk.eq rfl rfl⟩, trivial⟩ ⟨⟨by kernel_rfl, rfl⟩, trivial⟩
  have hm1 : 1 ≤ m.length := List.length_pos_iff.2 hm
  have a1 : ¬ (0 + r.length ≤ 0) := by omega
  have a2 : 1 ≤ 16 ∧ (0 + r.length) * 16 ≤ 140737488355328 ∧ 1 = 1 ∧ 0 + r.length ≤ 9223372036854775807 := by omega
  have a3 : ¬ (0 + m.length ≤ 0) := by omega
  have a4 : 1 ≤ 16 ∧ (0 + m.length) * 16 ≤ 140737488355328 ∧ 1 = 1 ∧ 0 + m.length ≤ 9223372036854775807 := by omega
  have fl1 := strs_flat r
  have fl2 := strs_flat m
  unfold dv strs
  refine Wp.seq (Wp.text ?_)
  refine md 1 (.pointer (some ⟨0, 0, none⟩)) (Blk.mk 24 true [strs x r, strs y m, Value.int .i64 i, Value.int .i64 j]) ?_
  refine md 2 (.pointer (some ⟨1, 0, none⟩)) (Blk.mk 30 true [Value.slice none 0 0, Value.slice none 0 0, Value.int .i64 0, Value.int .i64 0]) ?_
  refine WpOps.nil (thenK_at (Wp.seq ?_))
  refine Wp.regionD [(0, 4), (3, 4)] [[0, 1, 2, 3, 4, 5, 6, 7, 8, 9, 10, 11, 12, 13], [0, 1, 2, 4, 3, 5, 6, 7, 8, 9, 10, 11, 12, 13], [1, 2, 4, 0, 3, 5, 6, 7, 8, 9, 10, 11, 12, 13]] (by kernel_rfl) (by kernel_rfl) [(2, .pointer (some ⟨0, 0, none⟩))] [⟨30, true, [.slice (some ⟨1, 0, none⟩) r.length r.length, .slice (some ⟨2, 0, none⟩) m.length m.length, .int .i64 i, .int .i64 j]⟩, sB r, sB m] (allC ?_ (allC ?_ (all1 ?_))) ?_
  rotate_right
  · refine thenK_at (Wp.ret ?_)
    refine endK_retn [Value.agg #[Value.slice (some (Addr.mk 1 0 none)) (List.length r) (List.length r), Value.slice (some (Addr.mk 2 0 none)) (List.length m) (List.length m), Value.int IntKind.i64 i, Value.int IntKind.i64 j]] (Value.agg #[Value.slice (some (Addr.mk 1 0 none)) (List.length r) (List.length r), Value.slice (some (Addr.mk 2 0 none)) (List.length m) (List.length m), Value.int IntKind.i64 i, Value.int IntKind.i64 j]) (by kernel_rfl) (by kernel_rfl) ?_
    exact ice_dvs r m i j rfl rfl (by kernel_rfl) (by kernel_rfl)
  · refine md 3 (.slice (some ⟨2, 0, none⟩) 0 0) (Blk.mk 9 true []) ?_
    refine kp 4 (.pointer (some ⟨0, 0, none⟩)) ?_
    refine kp 5 (.iface 9 (Value.iface (List.length r) (Value.iface x (Value.agg (List.toArray (List.map Value.string r)))))) ?_
    refine ra 6 (.slice (some ⟨3, 0, none⟩) (0 + List.length r) (0 + List.length r)) (2) (Blk.mk 9 true ([] ++ Array.toList (List.toArray (List.map Value.string r)))) ?_ (hop := fun _ => o_append (e := 9) 2 (0) (0) _ (0) a1 a2)
    refine md 7 (.slice (some ⟨4, 0, none⟩) 0 0) (Blk.mk 9 true []) ?_
    refine kp 8 (.pointer (some ⟨0, 1, none⟩)) ?_
    refine kp 9 (.iface 9 (Value.iface (List.length m) (Value.iface y (Value.agg (List.toArray (List.map Value.string m)))))) ?_
    refine ra 10 (.slice (some ⟨5, 0, none⟩) (0 + List.length m) (0 + List.length m)) (4) (Blk.mk 9 true ([] ++ Array.toList (List.toArray (List.map Value.string m)))) ?_ (hop := fun _ => o_append (e := 9) 4 (0) (0) _ (0) a3 a4)
    refine kp 11 (.pointer (some ⟨0, 2, none⟩)) ?_
    refine kp 12 (.int IntKind.i64 i) ?_
    refine kp 13 (.pointer (some ⟨0, 3, none⟩)) ?_
    refine kp 14 (.int IntKind.i64 j) ?_
    refine kp 15 (.agg #[Value.slice (some ⟨3, 0, none⟩) (0 + List.length r) (0 + List.length r), Value.slice (some ⟨5, 0, none⟩) (0 + List.length m) (0 + List.length m), Value.int .i64 i, Value.int .i64 j]) ?_
    refine ld (.tuple #[]) (1) (Blk.mk 30 true [Value.slice (some ⟨3, 0, none⟩) (0 + List.length r) (0 + List.length r), Value.slice (some ⟨5, 0, none⟩) (0 + List.length m) (0 + List.length m), Value.int .i64 i, Value.int .i64 j]) ?_
    refine WpOps.nil ?_
    refine ⟨by kernel_rfl, ?_⟩
    exact View.of [1, 3, 5] [⟨30, true, [.slice (some ⟨1, 0, none⟩) r.length r.length, .slice (some ⟨2, 0, none⟩) m.length m.length, .int .i64 i, .int .i64 j]⟩, sB r, sB m] _ (by decide) rfl ⟨⟨[.slice (some ⟨3, 0, none⟩) r.length r.length, .slice (some ⟨5, 0, none⟩) m.length m.length, .int .i64 i, .int .i64 j], by simp only [Nat.zero_add]; kernel_rfl, ⟨by kernel_rfl, by kernel_rfl⟩⟩, ⟨_, by kernel_rfl, CellsOk.eq rfl fl1⟩, ⟨_, by kernel_rfl, CellsOk.eq rfl fl2⟩, trivial⟩ ⟨⟨by kernel_rfl, rfl⟩, trivial⟩
  · refine md 3 (.slice (some ⟨2, 0, none⟩) 0 0) (Blk.mk 9 true []) ?_
    refine kp 4 (.pointer (some ⟨0, 0, none⟩)) ?_
    refine kp 5 (.iface 9 (Value.iface (List.length r) (Value.iface x (Value.agg (List.toArray (List.map Value.string r)))))) ?_
    refine md 7 (.slice (some ⟨3, 0, none⟩) 0 0) (Blk.mk 9 true []) ?_
    refine ra 6 (.slice (some ⟨4, 0, none⟩) (0 + List.length r) (0 + List.length r)) (2) (Blk.mk 9 true ([] ++ Array.toList (List.toArray (List.map Value.string r)))) ?_ (hop := fun _ => o_append (e := 9) 2 (0) (0) _ (0) a1 a2)
    refine kp 8 (.pointer (some ⟨0, 1, none⟩)) ?_
    refine kp 9 (.iface 9 (Value.iface (List.length m) (Value.iface y (Value.agg (List.toArray (List.map Value.string m)))))) ?_
    refine ra 10 (.slice (some ⟨5, 0, none⟩) (0 + List.length m) (0 + List.length m)) (3) (Blk.mk 9 true ([] ++ Array.toList (List.toArray (List.map Value.string m)))) ?_ (hop := fun _ => o_append (e := 9) 3 (0) (0) _ (0) a3 a4)
    refine kp 11 (.pointer (some ⟨0, 2, none⟩)) ?_
    refine kp 12 (.int IntKind.i64 i) ?_
    refine kp 13 (.pointer (some ⟨0, 3, none⟩)) ?_
    refine kp 14 (.int IntKind.i64 j) ?_
    refine kp 15 (.agg #[Value.slice (some ⟨4, 0, none⟩) (0 + List.length r) (0 + List.length r), Value.slice (some ⟨5, 0, none⟩) (0 + List.length m) (0 + List.length m), Value.int .i64 i, Value.int .i64 j]) ?_
    refine ld (.tuple #[]) (1) (Blk.mk 30 true [Value.slice (some ⟨4, 0, none⟩) (0 + List.length r) (0 + List.length r), Value.slice (some ⟨5, 0, none⟩) (0 + List.length m) (0 + List.length m), Value.int .i64 i, Value.int .i64 j]) ?_
    refine WpOps.nil ?_
    refine ⟨by kernel_rfl, ?_⟩
    exact View.of [1, 4, 5] [⟨30, true, [.slice (some ⟨1, 0, none⟩) r.length r.length, .slice (some ⟨2, 0, none⟩) m.length m.length, .int .i64 i, .int .i64 j]⟩, sB r, sB m] _ (by decide) rfl ⟨⟨[.slice (some ⟨4, 0, none⟩) r.length r.length, .slice (some ⟨5, 0, none⟩) m.length m.length, .int .i64 i, .int .i64 j], by simp only [Nat.zero_add]; kernel_rfl, ⟨by kernel_rfl, by kernel_rfl⟩⟩, ⟨_, by kernel_rfl, CellsOk.eq rfl fl1⟩, ⟨_, by kernel_rfl, CellsOk.eq rfl fl2⟩, trivial⟩ ⟨⟨by kernel_rfl, rfl⟩, trivial⟩
  · refine kp 4 (.pointer (some ⟨0, 0, none⟩)) ?_
    refine kp 5 (.iface 9 (Value.iface (List.length r) (Value.iface x (Value.agg (List.toArray (List.map Value.string r)))))) ?_
    refine md 7 (.slice (some ⟨2, 0, none⟩) 0 0) (Blk.mk 9 true []) ?_
    refine md 3 (.slice (some ⟨3, 0, none⟩) 0 0) (Blk.mk 9 true []) ?_
    refine ra 6 (.slice (some ⟨4, 0, none⟩) (0 + List.length r) (0 + List.length r)) (3) (Blk.mk 9 true ([] ++ Array.toList (List.toArray (List.map Value.string r)))) ?_ (hop := fun _ => o_append (e := 9) 3 (0) (0) _ (0) a1 a2)
    refine kp 8 (.pointer (some ⟨0, 1, none⟩)) ?_
    refine kp 9 (.iface 9 (Value.iface (List.length m) (Value.iface y (Value.agg (List.toArray (List.map Value.string m)))))) ?_
    refine ra 10 (.slice (some ⟨5, 0, none⟩) (0 + List.length m) (0 + List.length m)) (2) (Blk.mk 9 true ([] ++ Array.toList (List.toArray (List.map Value.string m)))) ?_ (hop := fun _ => o_append (e := 9) 2 (0) (0) _ (0) a3 a4)
    refine kp 11 (.pointer (some ⟨0, 2, none⟩)) ?_
    refine kp 12 (.int IntKind.i64 i) ?_
    refine kp 13 (.pointer (some ⟨0, 3, none⟩)) ?_
    refine kp 14 (.int IntKind.i64 j) ?_
    refine kp 15 (.agg #[Value.slice (some ⟨4, 0, none⟩) (0 + List.length r) (0 + List.length r), Value.slice (some ⟨5, 0, none⟩) (0 + List.length m) (0 + List.length m), Value.int .i64 i, Value.int .i64 j]) ?_
    refine ld (.tuple #[]) (1) (Blk.mk 30 true [Value.slice (some ⟨4, 0, none⟩) (0 + List.length r) (0 + List.length r), Value.slice (some ⟨5, 0, none⟩) (0 + List.length m) (0 + List.length m), Value.int .i64 i, Value.int .i64 j]) ?_
    refine WpOps.nil ?_
    refine ⟨by kernel_rfl, ?_⟩
    exact View.of [1, 4, 5] [⟨30, true, [.slice (some ⟨1, 0, none⟩) r.length r.length, .slice (some ⟨2, 0, none⟩) m.length m.length, .int .i64 i, .int .i64 j]⟩, sB r, sB m] _ (by decide) rfl ⟨⟨[.slice (some ⟨4, 0, none⟩) r.length r.length, .slice (some ⟨5, 0, none⟩) m.length m.length, .int .i64 i, .int .i64 j], by simp only [Nat.zero_add]; kernel_rfl, ⟨by kernel_rfl, by kernel_rfl⟩⟩, ⟨_, by kernel_rfl, CellsOk.eq rfl fl1⟩, ⟨_, by kernel_rfl, CellsOk.eq rfl fl2⟩, trivial⟩ ⟨⟨by kernel_rfl, rfl⟩, trivial⟩
theorem str_neF (a : ByteArray) : (!(a.toList == a.toList)) = false := by rw [beq_self_eq_true]; rfl
theorem bneF (a : Int) : (a != a) = false := by simp
theorem f17 : E.funcs 17 = some Try.f17 := by kernel_rfl
set_option maxHeartbeats 4000000 in
theorem same17 (x y x' y' : Nat) (r m : List ByteArray) (i j : Int) (hr : r.length ≤ 8796093022208) (hm : m.length ≤ 8796093022208) : Fun E 17 [dv x y r m i j, dv x' y' r m i j] (.bool true) := by
  refine Fun.of f17 rfl (of_decide_eq_true (by kernel_rfl)) rfl ?_
  have c1 := bneF (r.length : Int)
  have c2 := bneF (m.length : Int)
  have c3 := bneF i
  have c4 := bneF j
  unfold dv strs
  refine Wp.seq (Wp.text ?_)
  refine md 2 (.pointer (some ⟨0, 0, none⟩)) (Blk.mk 30 true [strs x r, strs y m, Value.int .i64 i, Value.int .i64 j]) ?_
  refine md 3 (.pointer (some ⟨1, 0, none⟩)) (Blk.mk 30 true [Value.iface 9 (Value.iface (List.length r) (Value.iface x' (Value.agg (List.toArray (List.map Value.string r))))), Value.iface 9 (Value.iface (List.length m) (Value.iface y' (Value.agg (List.toArray (List.map Value.string m))))), Value.int .i64 i, Value.int .i64 j]) ?_
  refine kp 4 (.bool false) ?_
  refine WpOps.nil (thenK_at (Wp.seq (Wp.seq (Wp.text ?_))))
  refine kp 7 (.pointer (some ⟨0, 0, none⟩)) ?_
  refine kp 8 (.iface 9 (Value.iface (List.length r) (Value.iface x (Value.agg (List.toArray (List.map Value.string r)))))) ?_
  refine kp 9 (.int IntKind.i64 (↑(List.length r) : Int)) ?_
  refine kp 10 (.pointer (some ⟨1, 0, none⟩)) ?_
  refine kp 11 (.iface 9 (Value.iface (List.length r) (Value.iface x' (Value.agg (List.toArray (List.map Value.string r)))))) ?_
  refine kp 12 (.int IntKind.i64 (↑(List.length r) : Int)) ?_
  refine kp 13 (.bool false) ?_ (hop := fun _ => by_fact c1)
  refine kp 14 (.bool false) ?_
  refine kp 15 (.pointer (some ⟨0, 1, none⟩)) ?_
  refine kp 16 (.iface 9 (Value.iface (List.length m) (Value.iface y (Value.agg (List.toArray (List.map Value.string m)))))) ?_
  refine kp 17 (.int IntKind.i64 (↑(List.length m) : Int)) ?_
  refine kp 18 (.pointer (some ⟨1, 1, none⟩)) ?_
  refine kp 19 (.iface 9 (Value.iface (List.length m) (Value.iface y' (Value.agg (List.toArray (List.map Value.string m)))))) ?_
  refine kp 20 (.int IntKind.i64 (↑(List.length m) : Int)) ?_
  refine kp 21 (.bool false) ?_ (hop := fun _ => by_fact c2)
  refine kp 22 (.bool false) ?_
  refine kp 23 (.bool false) ?_
  refine kp 24 (.pointer (some ⟨0, 2, none⟩)) ?_
  refine kp 25 (.int IntKind.i64 i) ?_
  refine kp 26 (.pointer (some ⟨1, 2, none⟩)) ?_
  refine kp 27 (.int IntKind.i64 i) ?_
  refine kp 28 (.bool false) ?_ (hop := fun _ => by_fact c3)
  refine kp 29 (.bool false) ?_
  refine kp 30 (.bool false) ?_
  refine kp 31 (.pointer (some ⟨0, 3, none⟩)) ?_
  refine kp 32 (.int IntKind.i64 j) ?_
  refine kp 33 (.pointer (some ⟨1, 3, none⟩)) ?_
  refine kp 34 (.int IntKind.i64 j) ?_
  refine kp 35 (.bool false) ?_ (hop := fun _ => by_fact c4)
  refine kp 36 (.bool false) ?_
  refine WpOps.nil (thenK_at (off' (Wp.skip (thenK_at (Wp.seq (Wp.seq (Wp.text ?_)))))))
  refine kp 5 (.int IntKind.i64 0) ?_
  refine WpOps.nil (thenK_at (Wp.block ?_))
  refine Wp.loop (G := Nat) (fun k => layj [(2, .pointer (some ⟨0, 0, none⟩)), (3, .pointer (some ⟨1, 0, none⟩)), (5, .int .i64 k)]) (fun _ => heapOf [⟨30, true, [strs x r, strs y m, .int .i64 i, .int .i64 j]⟩, ⟨30, true, [strs x' r, strs y' m, .int .i64 i, .int .i64 j]⟩]) (fun k => r.length - k) (fun k => k ≤ r.length) 0
    (View.of [0, 1] [⟨30, true, [strs x r, strs y m, .int .i64 i, .int .i64 j]⟩, ⟨30, true, [strs x' r, strs y' m, .int .i64 i, .int .i64 j]⟩] _ (by decide) rfl ⟨⟨_, by kernel_rfl, CellsOk.eq rfl rfl⟩, ⟨_, by kernel_rfl, CellsOk.eq rfl rfl⟩, trivial⟩ ⟨⟨by kernel_rfl, rfl⟩, ⟨by kernel_rfl, rfl⟩, ⟨by kernel_rfl, rfl⟩, trivial⟩) (Nat.zero_le _) ?_
  intro k hk
  unfold strs
  refine Wp.seq (Wp.seq (Wp.text ?_))
  refine kp 37 (.int IntKind.i64 (↑k : Int)) ?_
  refine kp 38 (.pointer (some ⟨0, 0, none⟩)) ?_
  refine kp 39 (.iface 9 (Value.iface (List.length r) (Value.iface x (Value.agg (List.toArray (List.map Value.string r)))))) ?_
  refine kp 40 (.int IntKind.i64 (↑(List.length r) : Int)) ?_
  refine kp 41 (.bool (decide ((↑k : Int) < (↑(List.length r) : Int)))) ?_
  refine WpOps.nil (thenK_at ?_)
  refine Wp.split (decide ((↑k : Int) < (↑(List.length r) : Int))) (by kernel_rfl) (fun hc => ?_) (fun hc => ?_)
  · have hlt : (k : Int) < r.length := of_decide_eq_true hc
    have l3 : 0 ≤ (k : Int) ∧ (k : Int) < r.length := ⟨Int.natCast_nonneg _, hlt⟩
    have v3 := strs_at r k (by omega)
    have e3 := str_neF (rowAt r k)
    refine Wp.skip (thenK_at (Wp.seq (Wp.block (Wp.seq ?_))))
    refine Wp.region (by kernel_rfl) ?_
    refine kp 44 (.pointer (some ⟨0, 0, none⟩)) ?_
    refine kp 45 (.iface 9 (Value.iface (List.length r) (Value.iface x (Value.agg (List.toArray (List.map Value.string r)))))) ?_
    refine kp 46 (.int IntKind.i64 (↑k : Int)) ?_
    refine kp 47 (.iface 9 (Value.iface (Int.toNat (↑k : Int) * 1) (Value.agg (List.toArray (List.map Value.string r))))) ?_ (hop := fun _ => o_indexI (e := 9) (size := 1) (a := (↑k : Int)) l3)
    refine kp 48 (.string (rowAt r k)) ?_ (hop := fun _ => o_loadI1 (Int.toNat (↑k : Int) * 1) v3)
    refine kp 49 (.pointer (some ⟨1, 0, none⟩)) ?_
    refine kp 50 (.iface 9 (Value.iface (List.length r) (Value.iface x' (Value.agg (List.toArray (List.map Value.string r)))))) ?_
    refine kp 51 (.int IntKind.i64 (↑k : Int)) ?_
    refine kp 52 (.iface 9 (Value.iface (Int.toNat (↑k : Int) * 1) (Value.agg (List.toArray (List.map Value.string r))))) ?_ (hop := fun _ => o_indexI (e := 9) (size := 1) (a := (↑k : Int)) l3)
    refine kp 53 (.string (rowAt r k)) ?_ (hop := fun _ => o_loadI1 (Int.toNat (↑k : Int) * 1) v3)
    refine kp 54 (.bool false) ?_ (hop := fun _ => by_fact e3)
    refine WpOps.nil (thenK_at (off' (Wp.skip (blockK_norm (thenK_at (Wp.text ?_))))))
    refine kp 42 (.int IntKind.i64 (↑k : Int)) ?_
    refine kp 43 (.int IntKind.i64 (IntKind.wrap .i64 ((↑k : Int) + 1))) ?_
    refine kp 5 (.int IntKind.i64 (IntKind.wrap .i64 ((↑k : Int) + 1))) ?_
    refine WpOps.nil (thenK_at ?_)
    exact ⟨k + 1, by omega, by omega, View.of [0, 1] [⟨30, true, [strs x r, strs y m, .int .i64 i, .int .i64 j]⟩, ⟨30, true, [strs x' r, strs y' m, .int .i64 i, .int .i64 j]⟩] _ (by decide) rfl ⟨⟨_, by kernel_rfl, CellsOk.eq rfl rfl⟩, ⟨_, by kernel_rfl, CellsOk.eq rfl rfl⟩, trivial⟩ ⟨⟨by kernel_rfl, rfl⟩, ⟨by kernel_rfl, rfl⟩, ⟨congrArg (Value.int .i64) (wr _ (by omega) (by omega)), rfl⟩, trivial⟩⟩
  · refine Wp.exit (thenK_exit (thenK_exit (blockK_hit (thenK_at (Wp.seq (Wp.seq (Wp.text ?_)))))))
    refine kp 6 (.int IntKind.i64 0) ?_
    refine WpOps.nil (thenK_at (Wp.block ?_))
    refine Wp.loop (G := Nat) (fun k => layj [(2, .pointer (some ⟨0, 0, none⟩)), (3, .pointer (some ⟨1, 0, none⟩)), (6, .int .i64 k)]) (fun _ => heapOf [⟨30, true, [strs x r, strs y m, .int .i64 i, .int .i64 j]⟩, ⟨30, true, [strs x' r, strs y' m, .int .i64 i, .int .i64 j]⟩]) (fun k => m.length - k) (fun k => k ≤ m.length) 0
      (View.of [0, 1] [⟨30, true, [strs x r, strs y m, .int .i64 i, .int .i64 j]⟩, ⟨30, true, [strs x' r, strs y' m, .int .i64 i, .int .i64 j]⟩] _ (by decide) rfl ⟨⟨_, by kernel_rfl, CellsOk.eq rfl rfl⟩, ⟨_, by kernel_rfl, CellsOk.eq rfl rfl⟩, trivial⟩ ⟨⟨by kernel_rfl, rfl⟩, ⟨by kernel_rfl, rfl⟩, ⟨by kernel_rfl, rfl⟩, trivial⟩) (Nat.zero_le _) ?_
    intro k hk
    unfold strs
    refine Wp.seq (Wp.seq (Wp.text ?_))
    refine kp 55 (.int IntKind.i64 (↑k : Int)) ?_
    refine kp 56 (.pointer (some ⟨0, 1, none⟩)) ?_
    refine kp 57 (.iface 9 (Value.iface (List.length m) (Value.iface y (Value.agg (List.toArray (List.map Value.string m)))))) ?_
    refine kp 58 (.int IntKind.i64 (↑(List.length m) : Int)) ?_
    refine kp 59 (.bool (decide ((↑k : Int) < (↑(List.length m) : Int)))) ?_
    refine WpOps.nil (thenK_at ?_)
    refine Wp.split (decide ((↑k : Int) < (↑(List.length m) : Int))) (by kernel_rfl) (fun hd => ?_) (fun hd => ?_)
    · have hlt : (k : Int) < m.length := of_decide_eq_true hd
      have l3 : 0 ≤ (k : Int) ∧ (k : Int) < m.length := ⟨Int.natCast_nonneg _, hlt⟩
      have v3 := strs_at m k (by omega)
      have e3 := str_neF (rowAt m k)
      refine Wp.skip (thenK_at (Wp.seq (Wp.block (Wp.seq ?_))))
      refine Wp.region (by kernel_rfl) ?_
      refine kp 62 (.pointer (some ⟨0, 1, none⟩)) ?_
      refine kp 63 (.iface 9 (Value.iface (List.length m) (Value.iface y (Value.agg (List.toArray (List.map Value.string m)))))) ?_
      refine kp 64 (.int IntKind.i64 (↑k : Int)) ?_
      refine kp 65 (.iface 9 (Value.iface (Int.toNat (↑k : Int) * 1) (Value.agg (List.toArray (List.map Value.string m))))) ?_ (hop := fun _ => o_indexI (e := 9) (size := 1) (a := (↑k : Int)) l3)
      refine kp 66 (.string (rowAt m k)) ?_ (hop := fun _ => o_loadI1 (Int.toNat (↑k : Int) * 1) v3)
      refine kp 67 (.pointer (some ⟨1, 1, none⟩)) ?_
      refine kp 68 (.iface 9 (Value.iface (List.length m) (Value.iface y' (Value.agg (List.toArray (List.map Value.string m)))))) ?_
      refine kp 69 (.int IntKind.i64 (↑k : Int)) ?_
      refine kp 70 (.iface 9 (Value.iface (Int.toNat (↑k : Int) * 1) (Value.agg (List.toArray (List.map Value.string m))))) ?_ (hop := fun _ => o_indexI (e := 9) (size := 1) (a := (↑k : Int)) l3)
      refine kp 71 (.string (rowAt m k)) ?_ (hop := fun _ => o_loadI1 (Int.toNat (↑k : Int) * 1) v3)
      refine kp 72 (.bool false) ?_ (hop := fun _ => by_fact e3)
      refine WpOps.nil (thenK_at (off' (Wp.skip (blockK_norm (thenK_at (Wp.text ?_))))))
      refine kp 60 (.int IntKind.i64 (↑k : Int)) ?_
      refine kp 61 (.int IntKind.i64 (IntKind.wrap .i64 ((↑k : Int) + 1))) ?_
      refine kp 6 (.int IntKind.i64 (IntKind.wrap .i64 ((↑k : Int) + 1))) ?_
      refine WpOps.nil (thenK_at ?_)
      exact ⟨k + 1, by omega, by omega, View.of [0, 1] [⟨30, true, [strs x r, strs y m, .int .i64 i, .int .i64 j]⟩, ⟨30, true, [strs x' r, strs y' m, .int .i64 i, .int .i64 j]⟩] _ (by decide) rfl ⟨⟨_, by kernel_rfl, CellsOk.eq rfl rfl⟩, ⟨_, by kernel_rfl, CellsOk.eq rfl rfl⟩, trivial⟩ ⟨⟨by kernel_rfl, rfl⟩, ⟨by kernel_rfl, rfl⟩, ⟨congrArg (Value.int .i64) (wr _ (by omega) (by omega)), rfl⟩, trivial⟩⟩
    · refine Wp.exit (thenK_exit (thenK_exit (blockK_hit (thenK_at (Wp.seq (Wp.text ?_))))))
      refine kp 4 (.bool true) ?_
      refine WpOps.nil (thenK_at (Wp.ret ?_))
      refine endK_retn [Value.bool true] (Value.bool true) (by kernel_rfl) (by kernel_rfl) ?_
      rfl
end Go.Proofs.Ytlejgfeoffhjoaa.D
