/- How much labels and what is asked of them hold. -/
import Derived.Test.YtcnbcblihepbmaaGreatDoorLD
import Derived.Test.YtcnbcblihepbmaaGreatDoorO
set_option autoImplicit false
set_option linter.unusedVariables false
set_option linter.unusedSimpArgs false
namespace Go.Proofs.YtcnbcblihepbmaaGreatDoor
open Go Go.RowKit
theorem mem_bulk {α : Type} {k : Kd α} {l : List α} {x : α} (h : x ∈ l) : k.bulk x + 1 ≤ k.slice.bulk l := by
  have : k.bulk x ≤ (l.map k.bulk).sum := by
    induction l with
    | nil => cases h
    | cons y l ih =>
      rw [List.map_cons, List.sum_cons]
      rcases List.mem_cons.1 h with rfl | h
      · omega
      · have := ih h; omega
  exact Nat.succ_le_succ this
theorem label_bulk (x : Label) : x.Value.size ≤ kLabel.bulk x := by
  simp only [kLabel, Kd.iso, Kd.pair, kStr]; omega
theorem req_bulk (x : Req) : kStr.slice.bulk x.Values ≤ kReq.bulk x := by
  simp only [kReq, Kd.iso, Kd.pair]; omega
theorem reqsOk_of {l : List Req} {m : Nat} (h : kReq.slice.bulk l ≤ m) (hm : m ≤ 281474976710656) : ReqsOk l := fun r hr w hw => by
  have h1 := mem_bulk (k := kReq) hr
  have h2 := req_bulk r
  have h3 := mem_bulk (k := kStr) hw
  have h4 : kStr.bulk w = w.size + 1 := rfl
  omega
theorem labOk_of {l : List Label} {m : Nat} (h : kLabel.slice.bulk l ≤ m) (hm : m ≤ 281474976710656) : LabOk l := fun x hx => by
  have h1 := mem_bulk (k := kLabel) hx
  have h2 := label_bulk x
  omega
theorem strsOk_of {l : List ByteArray} {m : Nat} (h : kStr.slice.bulk l ≤ m) (hm : m ≤ 281474976710656) : ∀ w ∈ l, w.size ≤ 281474976710656 := fun w hw => by
  have h1 := mem_bulk (k := kStr) hw
  have h2 : kStr.bulk w = w.size + 1 := rfl
  omega
theorem strs_bulk (l : List ByteArray) : l.length + 1 ≤ kStr.slice.bulk l := bulk_len (k := kStr) (fun _ => Nat.le_add_left 1 _) l
theorem labels_bulk (l : List Label) : l.length + 1 ≤ kLabel.slice.bulk l := bulk_len (k := kLabel) (fun x => by simp only [kLabel, Kd.iso, Kd.pair, kStr]; omega) l
theorem reqs_bulk (l : List Req) : l.length + 1 ≤ kReq.slice.bulk l := bulk_len (k := kReq) (fun x => by simp only [kReq, Kd.iso, Kd.pair, kStr]; omega) l
end Go.Proofs.YtcnbcblihepbmaaGreatDoor
