/- The walks and plain laws beneath the statements. -/
import Derived.Test.YtchfglbkiebfpaaGreatDoorPR29
import Derived.Test.YtchfglbkiebfpaaGreatDoorPR30
namespace Go.Proofs.YtchfglbkiebfpaaGreatDoor
open Go.RowKit

theorem spanRing_any (b : Bool) (s : ByteArray) (e : Int) (c : Bool) (t : ByteArray) (f : Int) (b' : Bool) (s' : ByteArray) (e' : Int) (c' : Bool) (t' : ByteArray) (f' : Int) (SA : Option Addr) (n cc : Nat) (bs : Nat → Bool) (ss : Nat → ByteArray) (es : Nat → Int) (cs : Nat → Bool) (ts : Nat → ByteArray) (fs : Nat → Int) (w : World) (hr : RdS w SA n bs ss es cs ts fs) (hT : TabAt 0 Lib.deBruijn64tab w) :
    Calls Tryz.prog 3 #[.agg #[.bool b, .string s, .int .i64 e, .bool c, .string t, .int .i64 f], .agg #[.bool b', .string s', .int .i64 e', .bool c', .string t', .int .i64 f'], .slice SA n cc] w fun e w' => e = .returned (.bool true) ∧ Below w.heap.size w w' := by
  have HA := Lib.hid (fun W (h : Below w.heap.size w W) => sawake_any W (tab_keep hT h))
  by_cases h1 : (okN s e ∧ okN t f) ∧ (okN s' e' ∧ okN t' f')
  · have cf := Lib.hid (fun W g (hx : Bx W g 27 #[.bool b, .string s, .int .i64 e, .bool c, .string t, .int .i64 f, .bool b', .string s', .int .i64 e', .bool c', .string t', .int .i64 f']) => far2_no h1 hx)
    by_cases h2 : (20 : Int) < (n : Int)
    · exact spanRing_b _ _ _ _ _ _ _ _ _ _ _ _ SA n cc h2 w HA cf
    · have hn1 : n ≤ 4611686018427387904 := by omega
      by_cases h3 : ∀ j, j < n → okN (ss j) (es j) ∧ okN (ts j) (fs j)
      · have cl := Lib.hid (fun W (hB : Below w.heap.size w W) => far_no SA n cc bs cs ss ts es fs W hn1 h3 (hr.below hB))
        have o1 := ok_cut (fun j hj => (h3 j hj).1)
        have o2 := ok_cut (fun j hj => (h3 j hj).2)
        obtain ⟨⟨a1, a2⟩, a3, a4⟩ := h1
        have d1 := db_ok (b := b) a1
        have d2 := db_ok (b := c) a2
        have d3 := db_ok (b := b') a3
        have d4 := db_ok (b := c') a4
        have hc := hr.cut
        exact spanRing_main _ _ _ _ _ _ _ _ _ _ _ _ _ _ _ _ _ _ _ _ _ _ _ _ _ _ _ _ _ _ SA n cc h2 w HA cf cl
          (Lib.hid fun W hB => sAdd_any SA n cc bs cs _ _ _ _ _ _ 300 620 W (by omega) (fun j => nd_ok (o1 j)) (fun j => nd_ok (o2 j)) (fun j => db_ok (o1 j)) (fun j => db_ok (o2 j)) (by omega) (hc.below hB) (tab_keep hT hB))
          (Lib.hid fun W hB => rsAdd_any SA n cc bs cs _ _ _ _ _ _ 300 620 W (by omega) (fun j => nd_ok (o1 j)) (fun j => nd_ok (o2 j)) (fun j => db_ok (o1 j)) (fun j => db_ok (o2 j)) (by omega) (hc.below hB))
          (Lib.hid fun W hB => sNeg_any W (nd_ok a1) (nd_ok a2) d1 d2 (by decide) (tab_keep hT hB))
          (Lib.hid fun W _ => rsNeg_any (nd_ok a1) (nd_ok a2) d1 d2 (by decide) W)
          (Lib.hid fun W hB => sMul_any W (nd_ok a1) (nd_ok a2) (nd_ok a3) (nd_ok a4) d1 d2 d3 d4 (by decide) (tab_keep hT hB))
          (Lib.hid fun W _ => rsMul_any (nd_ok a1) (nd_ok a2) d1 d2 (nd_ok a3) (nd_ok a4) d3 d4 (by decide) ⟨a1.2.1, a2.2.1, a3.2.1, a4.2.1⟩ W)
      · obtain ⟨k0, hk⟩ := Classical.not_forall.1 h3
        have hk0 : k0 < n := Classical.byContradiction fun h => hk fun h' => absurd h' h
        have hk1 : ¬ (okN (ss k0) (es k0) ∧ okN (ts k0) (fs k0)) := fun h => hk fun _ => h
        exact spanRing_c _ _ _ _ _ _ _ _ _ _ _ _ SA n cc h2 w HA cf (Lib.hid fun W hB => far_yes SA n cc bs cs ss ts es fs W hn1 k0 hk0 hk1 (hr.below hB))
  · exact spanRing_a _ _ _ _ _ _ _ _ _ _ _ _ SA n cc w HA (Lib.hid fun W g (hx : Bx W g 27 #[.bool b, .string s, .int .i64 e, .bool c, .string t, .int .i64 f, .bool b', .string s', .int .i64 e', .bool c', .string t', .int .i64 f']) => far2_yes h1 hx)

end Go.Proofs.YtchfglbkiebfpaaGreatDoor

