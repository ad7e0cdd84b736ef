/- How much data hold: what the measures ask of a pod and of infos. -/
import Derived.Test.YtopimbpclgejhaaGreatDoorMS
import Derived.Test.YtopimbpclgejhaaGreatDoorO
set_option autoImplicit false
set_option linter.unusedVariables false
set_option linter.unusedSimpArgs false
namespace Go.Proofs.YtopimbpclgejhaaGreatDoor
open Go Go.RowKit
theorem mem_bulk {α : Type} {k : Kd α} {l : List α} {x : α} (h : x ∈ l) : k.bulk x + 1 ≤ k.slice.bulk l := by
  have : k.bulk x ≤ (l.map k.bulk).sum := by
    induction l with
    | nil => cases h
    | cons y l ih =>
      rw [List.map_cons, List.sum_cons]
      rcases List.mem_cons.1 h with rfl | h
      · omega
      · have := ih h; omega
  exact Nat.succ_le_succ this
theorem label_bulk (x : Label) : x.Value.size ≤ kLabel.bulk x := by
  simp only [kLabel, Kd.iso, Kd.pair, kStr]; omega
theorem info_bulk (x : Info) : kTaint.slice.bulk x.Node.Taints ≤ kInfo.bulk x ∧ kLabel.slice.bulk x.Node.Labels ≤ kInfo.bulk x := by
  simp only [kInfo, kNode, Kd.iso, Kd.pair]; constructor <;> omega
theorem req_bulk (x : Req) : kStr.slice.bulk x.Values ≤ kReq.bulk x := by
  simp only [kReq, Kd.iso, Kd.pair]; omega
theorem prefer_bulk (x : Prefer) : kReq.slice.bulk x.Reqs + 1 ≤ kPrefer.bulk x := by
  simp only [kPrefer, Kd.iso, Kd.pair, kInt]; omega
theorem pod_bulk (x : Pod) : kPrefer.slice.bulk x.Prefers ≤ kPod.bulk x := by
  simp only [kPod, kRes, Kd.iso, Kd.pair]; omega
theorem taints_bulk (l : List Taint) : l.length + 1 ≤ kTaint.slice.bulk l := bulk_len (k := kTaint) (fun _ => Nat.le_trans (Nat.le_add_left 1 _) (Nat.le_add_right _ _)) l
theorem prefers_bulk (l : List Prefer) : l.length + 1 ≤ kPrefer.slice.bulk l := bulk_len (k := kPrefer) (fun x => by have := prefer_bulk x; omega) l
theorem infos_bulk (l : List Info) : l.length + 1 ≤ kInfo.slice.bulk l := bulk_len (k := kInfo) (fun x => by have h := info_bulk x; have := taints_bulk x.Node.Taints; omega) l
theorem reqsOk_of {l : List Req} {m : Nat} (h : kReq.slice.bulk l ≤ m) (hm : m ≤ 281474976710656) : ReqsOk l := fun r hr w hw => by
  have h1 := mem_bulk (k := kReq) hr
  have h2 := req_bulk r
  have h3 := mem_bulk (k := kStr) hw
  have h4 : kStr.bulk w = w.size + 1 := rfl
  omega
theorem infOk_of {x : Info} {m : Nat} (h : kInfo.bulk x ≤ m) (hm : m ≤ 1073741824) : InfOk x := by
  have hi := info_bulk x
  refine ⟨by have := taints_bulk x.Node.Taints; omega, fun y hy => ?_⟩
  have h1 := mem_bulk (k := kLabel) hy
  have h2 := label_bulk y
  omega
theorem podOk_of {p : Pod} {m : Nat} (h : kPod.bulk p ≤ m) (hm : m ≤ 1073741824) : PodOk p := by
  have hi := pod_bulk p
  refine ⟨by have := prefers_bulk p.Prefers; omega, fun q hq => ?_⟩
  have h1 := mem_bulk (k := kPrefer) hq
  have h2 := prefer_bulk q
  exact reqsOk_of (m := m) (by omega) (by omega)
end Go.Proofs.YtopimbpclgejhaaGreatDoor
