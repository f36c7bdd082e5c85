/- The walks and plain laws beneath the statements. -/
import Derived.Test.YtchfglbkiebfpaaGreatDoorPF29
import Derived.Test.YtchfglbkiebfpaaGreatDoorPF27
import Derived.Test.YtchfglbkiebfpaaGreatDoorPF28
import Derived.Test.YtchfglbkiebfpaaGreatDoorPF30
namespace Go.Proofs.YtchfglbkiebfpaaGreatDoor
open Go.RowKit

theorem slong_noB (A : Option Addr) (n c : Nat) (bs : Nat → Bool) (ss : Nat → ByteArray) (es : Nat → Int) (w : World) (hn : n ≤ 4611686018427387904) (hs : ∀ j, j < n → okN (ss j) (es j)) (hr : RdN w A n bs ss es) :
    Calls Tryz.prog 22 #[.slice A n c] w fun r w' => r = .returned (.bool false) ∧ Below w.heap.size w w' := by
  exact (slong_no A n c bs ss es w hn hs hr).mono fun _ _ ⟨he, hw⟩ => ⟨he, hw ▸ Below.refl _ _⟩
theorem slong_yesB (A : Option Addr) (n c : Nat) (bs : Nat → Bool) (ss : Nat → ByteArray) (es : Nat → Int) (w : World) (hn : n ≤ 4611686018427387904) (k0 : Nat) (hk0 : k0 < n) (hs : ¬ okN (ss k0) (es k0)) (hr : RdN w A n bs ss es) :
    Calls Tryz.prog 22 #[.slice A n c] w fun r w' => r = .returned (.bool true) ∧ Below w.heap.size w w' := by
  exact (slong_yes A n c bs ss es w hn k0 hk0 hs hr).mono fun _ _ ⟨he, hw⟩ => ⟨he, hw ▸ Below.refl _ _⟩

theorem spanForms_any (b : Bool) (s : ByteArray) (e : Int) (c : Bool) (t : ByteArray) (f : Int) (d : Bool) (u : ByteArray) (h : Int) (SA : Option Addr) (n cc : Nat) (bs : Nat → Bool) (ss : Nat → ByteArray) (es : Nat → Int) (w : World) (hr : RdN w SA n bs ss es) (hT : TabAt 0 Lib.deBruijn64tab w) :
    Calls Tryz.prog 8 #[.agg #[.bool b, .string s, .int .i64 e, .bool c, .string t, .int .i64 f], .agg #[.bool d, .string u, .int .i64 h], .slice SA n cc] w fun e w' => e = .returned (.bool true) ∧ Below w.heap.size w w' := by
  have HA := Lib.hid (fun W (h : Below w.heap.size w W) => sawake_any W (tab_keep hT h))
  by_cases h1 : okN s e ∧ okN t f
  · have cf := Lib.hid (fun W g (hx : Bx W g 27 #[.bool b, .string s, .int .i64 e, .bool c, .string t, .int .i64 f]) => far1_no h1 hx)
    by_cases h4 : okN u h
    · have ca := Lib.hid (fun W g (hx : Bx W g 25 #[.bool d, .string u, .int .i64 h]) => long1_no5 h4 hx)
      by_cases h2 : (20 : Int) < (n : Int)
      · exact spanForms_c _ _ _ _ _ _ _ _ _ SA n cc h2 w HA cf ca
      · have hn1 : n ≤ 4611686018427387904 := by omega
        by_cases h3 : ∀ j, j < n → okN (ss j) (es j)
        · have cl := Lib.hid (fun W (hB : Below w.heap.size w W) => slong_noB SA n cc bs ss es W hn1 h3 (hr.below hB))
          have o1 := ok_cut h3
          obtain ⟨a1, a2⟩ := h1
          have d1 := db_ok (b := b) a1
          have d2 := db_ok (b := c) a2
          have d3 := db_ok (b := d) h4
          have hc := hr.cut
          exact spanForms_main _ _ _ _ _ _ _ _ _ _ _ _ _ _ _ _ _ _ _ _ _ _ _ _ _ _ _ SA n cc _ h2 w HA cf ca cl
            (Lib.hid fun W hB => sForm_any W (nd_ok a1) (nd_ok a2) (tab_keep hT hB))
            (Lib.hid fun W _ => rsForm_any (nd_ok a1) (nd_ok a2) d1 d2 (by decide) W)
            (Lib.hid fun W hB => sHas_any W (nd_ok a1) (nd_ok a2) (nd_ok h4) d1 d2 (by decide) (tab_keep hT hB))
            (Lib.hid fun W _ => rsHas_any (nd_ok a1) (nd_ok a2) d1 d2 (nd_ok h4) d3 (by decide) W)
            (Lib.hid fun W hB => sWidth_any W (nd_ok a1) (nd_ok a2) d1 d2 (by decide) (tab_keep hT hB))
            (Lib.hid fun W _ => rsWidth_any (nd_ok a1) (nd_ok a2) d1 d2 (by decide) W)
            (Lib.hid fun W hB => sMid_any W (nd_ok a1) (nd_ok a2) d1 d2 (by decide) (tab_keep hT hB))
            (Lib.hid fun W _ => rsMid_any (nd_ok a1) (nd_ok a2) d1 d2 (by decide) W)
            (Lib.hid fun W hB => sOf_any SA n cc bs _ _ _ W (by omega) (fun j => nd_ok (o1 j)) (hc.below hB) (tab_keep hT hB))
            (Lib.hid fun W hB => rsOf_any SA n cc bs _ _ _ 300 620 W (by omega) (fun j => nd_ok (o1 j)) (fun j => db_ok (o1 j)) (by decide) (hc.below hB))
        · obtain ⟨k0, hk⟩ := Classical.not_forall.1 h3
          have hk0 : k0 < n := Classical.byContradiction fun h => hk fun h' => absurd h' h
          have hk1 : ¬ okN (ss k0) (es k0) := fun h => hk fun _ => h
          exact spanForms_d _ _ _ _ _ _ _ _ _ SA n cc h2 w HA cf ca (Lib.hid fun W hB => slong_yesB SA n cc bs ss es W hn1 k0 hk0 hk1 (hr.below hB))
    · exact spanForms_b _ _ _ _ _ _ _ _ _ SA n cc w HA cf (Lib.hid fun W g (hx : Bx W g 25 #[.bool d, .string u, .int .i64 h]) => long1_yes5 h4 hx)
  · exact spanForms_a _ _ _ _ _ _ _ _ _ SA n cc w HA (Lib.hid fun W g (hx : Bx W g 27 #[.bool b, .string s, .int .i64 e, .bool c, .string t, .int .i64 f]) => far1_yes h1 hx)
end Go.Proofs.YtchfglbkiebfpaaGreatDoor

