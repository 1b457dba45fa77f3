/- Layer 20: where each item stands (plain laws). -/
import Derived.Test.YtkkkdjkjggofkaaCrK
namespace Go.Proofs.Ytkkkdjkjggofkaa
open Go.RowKit
/-- the top of each row -/
def topS (s : Sty) (nr : Nat) (I : Nat → It) (rs : List (List Nat)) : Nat → Int
  | 0 => 0
  | r + 1 => topS s nr I rs r + rowH s nr I (rs.getD r [])
section
variable {s : Sty} {c : Int} {nr : Nat} {rs : List (List Nat)} {I J : Nat → It}
theorem rowH_congr {ks : List Nat} (h : ∀ k ∈ ks, J k = I k) : rowH s nr J ks = rowH s nr I ks := by
  unfold rowH
  rw [tallV_congr (fun k hk => by rw [h k hk]; exact ⟨rfl, rfl, rfl⟩)]
theorem topN_top (h : rs.flatten.Nodup) : ∀ r, r ≤ rs.length → (topN s c nr rs I r).1 = topS s nr I rs r := by
  intro r
  induction r with
  | zero => intro _; rfl
  | succ r ih =>
    intro hr
    show (topN s c nr rs I r).1 + rowH s nr (stN _ _ _) _ = _
    rw [rowH_st, ih (by omega), rowH_congr (J := (topN s c nr rs I r).2) (I := I) (fun k hk => topN_row h (by omega) hk)]
    rfl
theorem finI_congr {ks : List Nat} (h : ∀ k ∈ ks, J k = I k) (top : Int) (p : Nat) (x : It) : finI s c nr top J ks p x = finI s c nr top I ks p x := by
  unfold finI
  rw [rowH_congr h, sumV_congr (l := ks) (J := J) (I := I) (fun k hk => by rw [h k hk]; exact ⟨rfl, rfl, rfl⟩), sumV_congr (l := ks.take p) (J := J) (I := I) (fun k hk => by rw [h k (List.mem_of_mem_take hk)]; exact ⟨rfl, rfl, rfl⟩)]
/-- the item k, the p-th of the row r -/
theorem topN_fin (h : rs.flatten.Nodup) {r p k : Nat} (hk : (rs.getD r [])[p]? = some k) : ∀ q, r < q → q ≤ rs.length → (topN s c nr rs I q).2 k = finI s c nr (topS s nr I rs r) I (rs.getD r []) p (I k) := by
  intro q
  induction q with
  | zero => intro h; omega
  | succ q ih =>
    intro hrq hq
    have hm := List.mem_of_getElem? hk
    show rowN s c nr _ _ (rs.getD q []) k = _
    by_cases e : r = q
    · subst e
      rw [rowN_in (rows_nodup h (by omega)) hk, topN_top h r (by omega), topN_row h (by omega) hm, finI_congr (fun j hj => topN_row h (by omega) hj)]
    · have hout : k ∉ rs.getD q [] := fun hm2 => rows_apart h (show r < q by omega) (by omega) hm2 hm
      rw [rowN_out hout]
      exact ih (by omega) (by omega)
end
end Go.Proofs.Ytkkkdjkjggofkaa
