/- The walks and plain laws beneath the statements. -/
import Derived.Test.YtaelfkdjlioegaaGreatDoorQO35
namespace Go.Proofs.YtaelfkdjlioegaaGreatDoor
open Go Go.RowKit
theorem OwnK.some_{w:World}{base:Nat}{e:TypeId}{k:Nat}{v:Value}{n:Nat}{f:Nat→List Value}(h:OwnK w base e k v n f)(hn:0<n): ∃g c,v=.slice (some ⟨g,0,none⟩) n c:=by
 rcases h.2 with⟨_,h0⟩|⟨g,cap,cur,rfl,_⟩
 ·omega
 ·exact⟨g,cap,rfl⟩
