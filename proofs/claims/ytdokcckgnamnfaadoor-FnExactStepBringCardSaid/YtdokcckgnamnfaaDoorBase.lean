/- Small lemmas on lists, texts and rounds that the pure statements use. No program in sight. -/
import Derived.Test.YtdokcckgnamnfaaDoorWWords
import Derived.Test.YtdokcckgnamnfaaDoorWLast
import Derived.Lib.Walk
namespace Go.Proofs.YtdokcckgnamnfaaDoorB
open Go.RowKit Go.Proofs.YtdokcckgnamnfaaDoorW.PrintWords
set_option linter.unusedVariables false
set_option linter.unusedSimpArgs false

theorem list_data (s : ByteArray) : s.toList = s.data.toList := ByteArray.toList_eq s
theorem bytes_ext {s t : ByteArray} (h : s.data.toList = t.data.toList) : s = t := ByteArray.ext (Array.toList_inj.mp h)
theorem toList_inj {s t : ByteArray} : s.toList = t.toList ↔ s = t := by
  rw [list_data, list_data]; exact ⟨bytes_ext, fun h => by rw [h]⟩
theorem size_data (s : ByteArray) : s.data.toList.length = s.size := Array.length_toList
theorem data_append (s t : ByteArray) : (s ++ t).data.toList = s.data.toList ++ t.data.toList := by simp
theorem append_assoc (a b c : ByteArray) : a ++ b ++ c = a ++ (b ++ c) := bytes_ext (by simp [data_append])
theorem empty_append (a : ByteArray) : (⟨#[]⟩ : ByteArray) ++ a = a := bytes_ext (by simp [data_append])
theorem append_empty (a : ByteArray) : a ++ (⟨#[]⟩ : ByteArray) = a := bytes_ext (by simp [data_append])
theorem empty_eq : ByteArray.empty = (⟨#[]⟩ : ByteArray) := rfl
theorem extract_data (s : ByteArray) (i j : Nat) : (s.extract i j).data.toList = (s.data.toList.drop i).take (j - i) := by simp
theorem bt_data (s : ByteArray) (i : Nat) (h : i < s.size) : bt s (i : Int) = ((s.data.toList[i]'(by rw [size_data]; exact h)).toNat : Int) := by
  have h0 : (i : Int).toNat < s.size := by simpa using h
  rw [← bt_at s i h0]; rfl
theorem bt_cons {s : ByteArray} {i : Nat} {c : UInt8} {l : List UInt8} (h : s.data.toList.drop i = c :: l) : bt s (i : Int) = (c.toNat : Int) := by
  have hi : i < s.size := by
    have := congrArg List.length h
    rw [List.length_drop, size_data] at this
    simp at this; omega
  rw [bt_data s i hi]
  have : s.data.toList[i]'(by rw [size_data]; exact hi) = c := by
    have h1 := List.drop_eq_getElem_cons (l := s.data.toList) (i := i) (by rw [size_data]; exact hi)
    rw [h] at h1
    injection h1 with h1 _
    exact h1.symm
  rw [this]

theorem wrap_id {x : Int} (h0 : -9223372036854775808 ≤ x) (h1 : x ≤ 9223372036854775807) : wrap64 x = x := by unfold wrap64; omega
theorem wrap_succ (i : Nat) (h : i < 9223372036854775807) : wrap64 ((i : Int) + 1) = ((i + 1 : Nat) : Int) := by unfold wrap64; omega
theorem wrap_nat (x : Int) (n : Nat) (e : x = (n : Int)) (h : n ≤ 9223372036854775807) : wrap64 x = (n : Int) := by subst e; unfold wrap64; omega

theorem ev_now {α : Type} {a r : α} (h : a = r) : Ev (fun _ => some a) r := by subst h; exact Ev.now _
theorem ev_ite {α : Type} {c : Prop} [Decidable c] {f g : Nat → Option α} {r : α} (h1 : c → Ev f r) (h2 : ¬ c → Ev g r) : Ev (fun k => if c then f k else g k) r := by
  by_cases h : c
  · simp only [if_pos h]; exact h1 h
  · simp only [if_neg h]; exact h2 h
theorem ev_some {α : Type} {g : Nat → Option α} {r : α} (h : ∀ k, g k = some r) : Ev g r := ⟨0, fun k _ => h k⟩
theorem ev_bind1 {α β : Type} {a : α} {o : Option α} {f : Nat → α → Option β} {r : β} (h : o = some a) (k : Ev (fun n => f n a) r) : Ev (fun n => o.bind (f n)) r := by
  subst h; exact k

theorem drop_lt {α : Type} {xs : List α} {i : Nat} {x : α} {l : List α} (h : xs.drop i = x :: l) : i < xs.length := by
  have := congrArg List.length h
  rw [List.length_drop] at this
  simp at this; omega
theorem drop_tail {α : Type} {xs : List α} {i : Nat} {x : α} {l : List α} (h : xs.drop i = x :: l) : xs.drop (i + 1) = l := by
  rw [← List.drop_drop, h]; rfl
theorem drop_end {α : Type} {xs : List α} {i : Nat} (h : xs.drop i = []) (hi : i ≤ xs.length) : i = xs.length := by
  have := congrArg List.length h
  rw [List.length_drop] at this
  simp at this; omega
theorem drop_getD {α : Type} {xs : List α} {i : Nat} {x : α} {l : List α} (d : α) (h : xs.drop i = x :: l) : xs.getD i d = x := by
  have hi := drop_lt h
  have h1 := List.drop_eq_getElem_cons hi
  rw [h] at h1
  injection h1 with h1 _
  rw [List.getD_eq_getElem?_getD, List.getElem?_eq_getElem hi, Option.getD_some, h1]
theorem rdOf_drop {α : Type} {xs : List α} {i : Nat} {x : α} {l : List α} (d : α) (h : xs.drop i = x :: l) : rdOf d xs (i : Int) = x := drop_getD d h
theorem rd_drop {xs : List Int} {i : Nat} {x : Int} {l : List Int} (h : xs.drop i = x :: l) : rd xs (i : Int) = x := drop_getD 0 h

/-- A loop that fills a new row: what stands after i rounds. -/
theorem fill_set {α β : Type} (xs : List α) (f : α → β) (z : β) {i : Nat} {x : α} {l : List α} (h : xs.drop i = x :: l) :
    ((xs.take i).map f ++ List.replicate (xs.length - i) z).set i (f x) = (xs.take (i + 1)).map f ++ List.replicate (xs.length - (i + 1)) z := by
  have hi := drop_lt h
  have hl : ((xs.take i).map f).length = i := by rw [List.length_map, List.length_take]; omega
  rw [List.set_append_right i (f x) (by omega), hl, Nat.sub_self]
  have hn : xs.length - i = (xs.length - (i + 1)) + 1 := by omega
  rw [hn, List.replicate_succ, List.set_cons_zero]
  have ht : xs.take (i + 1) = xs.take i ++ [x] := by
    rw [List.take_succ_eq_append_getElem hi]
    have h1 := List.drop_eq_getElem_cons hi
    rw [h] at h1
    injection h1 with h1 _
    rw [h1]
  rw [ht, List.map_append]
  simp
theorem fill_len {α β : Type} (xs : List α) (f : α → β) (z : β) {i : Nat} (hi : i ≤ xs.length) : ((xs.take i).map f ++ List.replicate (xs.length - i) z).length = xs.length := by
  simp; omega
theorem fill_end {α β : Type} (xs : List α) (f : α → β) (z : β) : (xs.take xs.length).map f ++ List.replicate (xs.length - xs.length) z = xs.map f := by simp

end Go.Proofs.YtdokcckgnamnfaaDoorB
