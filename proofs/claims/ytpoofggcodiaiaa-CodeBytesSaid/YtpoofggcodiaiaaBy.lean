/- Plain facts on strings of bytes as lists of whole numbers. No Go, no program. -/
import Derived.Test.YtpoofggcodiaiaaWMore
namespace Go.Proofs.Ytpoofggcodiaiaa.Pure
open Go.RowKit Go.Proofs.YtpoofggcodiaiaaW.PrintWords Go.Proofs.YtpoofggcodiaiaaW.PrintLast

/-- A string's bytes as whole numbers. -/
def bs (s : ByteArray) : List Int := s.data.toList.map fun c => (c.toNat : Int)
def Bytes8 (l : List Int) : Prop := ∀ x ∈ l, 0 ≤ x ∧ x ≤ 255
theorem size_len (s : ByteArray) : s.data.toList.length = s.size := Array.length_toList
theorem bs_len (s : ByteArray) : (bs s).length = s.size := by rw [← size_len]; exact List.length_map _
theorem bs_8 (s : ByteArray) : Bytes8 (bs s) := by
  intro x hx
  obtain ⟨c, _, rfl⟩ := List.mem_map.1 hx
  have := c.toNat_lt
  omega
theorem bt_bs (s : ByteArray) (i : Int) : bt s i = rd (bs s) i := by
  unfold bt rd bs
  by_cases h : i.toNat < s.size
  · rw [dif_pos h, List.getD_eq_getElem?_getD, List.getElem?_map]
    have h' : i.toNat < s.data.toList.length := by rw [size_len]; exact h
    rw [List.getElem?_eq_getElem h']
    rfl
  · rw [dif_neg h, List.getD_eq_getElem?_getD, List.getElem?_eq_none (by rw [List.length_map, size_len]; omega)]
    rfl
theorem bs_inj {s t : ByteArray} (h : bs s = bs t) : s = t := by
  unfold bs at h
  have h2 : s.data.toList = t.data.toList := by
    refine List.map_inj_right (f := fun c : UInt8 => (c.toNat : Int)) ?_ |>.1 h
    intro a b hab
    exact UInt8.toNat_inj.1 (by have h3 : ((a.toNat : Nat) : Int) = b.toNat := hab; omega)
  cases s; cases t
  congr 1
  exact Array.toList_inj.1 h2
theorem bs_of {l : List Int} (h : Bytes8 l) : bs (strOfNums l) = l := by
  unfold bs
  rw [strOfNums_data, List.map_map]
  conv => rhs; rw [← List.map_id l]
  refine List.map_congr_left fun x hx => ?_
  have := h x hx
  simp
  omega
theorem of_bs (s : ByteArray) : strOfNums (bs s) = s := bs_inj (bs_of (bs_8 s))
theorem bs_append (s t : ByteArray) : bs (s ++ t) = bs s ++ bs t := by
  unfold bs
  rw [← List.map_append, ByteArray.data_append, Array.toList_append]
theorem bs_extract (s : ByteArray) (a b : Nat) : bs (s.extract a b) = ((bs s).drop a).take (b - a) := by
  unfold bs
  rw [← List.map_drop, ← List.map_take, ByteArray.data_extract, Array.toList_extract, List.extract_eq_take_drop]
theorem str_append (a b : List Int) : strOfNums (a ++ b) = strOfNums a ++ strOfNums b := by
  have h : (strOfNums (a ++ b)).data.toList = (strOfNums a ++ strOfNums b).data.toList := by
    rw [ByteArray.data_append, Array.toList_append, strOfNums_data, strOfNums_data, strOfNums_data, List.map_append]
  generalize strOfNums (a ++ b) = x at *
  generalize strOfNums a ++ strOfNums b = y at *
  cases x; cases y; congr 1; exact Array.toList_inj.1 h
theorem toList_data (s : ByteArray) : s.toList = s.data.toList := ByteArray.toList_eq s
theorem toList_inj {s t : ByteArray} : s.toList = t.toList ↔ s = t := by
  rw [toList_data, toList_data]
  constructor
  · intro h; cases s; cases t; congr 1; exact Array.toList_inj.1 h
  · rintro rfl; rfl
theorem toList_bs {s t : ByteArray} : s.toList = t.toList ↔ bs s = bs t := by
  rw [toList_inj]
  exact ⟨fun h => h ▸ rfl, bs_inj⟩
theorem toList_lit (s : ByteArray) (l : List UInt8) : s.toList = l ↔ bs s = l.map fun c => (c.toNat : Int) := by
  rw [toList_data]
  unfold bs
  constructor
  · rintro rfl; rfl
  · intro h
    refine (List.map_inj_right (f := fun c : UInt8 => (c.toNat : Int)) ?_).1 h
    intro a b hab
    exact UInt8.toNat_inj.1 (by have h3 : ((a.toNat : Nat) : Int) = b.toNat := hab; omega)
theorem rd_lt {l : List Int} {i : Int} (h0 : 0 ≤ i) (h : i < (l.length : Int)) : l[i.toNat]? = some (rd l i) := by
  unfold rd
  have h' : i.toNat < l.length := by omega
  rw [List.getD_eq_getElem?_getD, List.getElem?_eq_getElem h']
  rfl
theorem rd_nat {l : List Int} {i : Nat} (h : i < l.length) : rd l (i : Int) = l[i] := by
  unfold rd
  rw [Int.toNat_natCast, List.getD_eq_getElem?_getD, List.getElem?_eq_getElem h]
  rfl
theorem rd_8 {l : List Int} (h : Bytes8 l) (i : Int) : 0 ≤ rd l i ∧ rd l i ≤ 255 := by
  unfold rd
  rw [List.getD_eq_getElem?_getD]
  rcases Nat.lt_or_ge i.toNat l.length with c | c
  · rw [List.getElem?_eq_getElem c]; exact h _ (List.getElem_mem c)
  · rw [List.getElem?_eq_none c]; exact ⟨by decide, by decide⟩
end Go.Proofs.Ytpoofggcodiaiaa.Pure
