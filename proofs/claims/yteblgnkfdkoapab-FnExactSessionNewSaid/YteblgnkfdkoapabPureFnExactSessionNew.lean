/- The program's SessionNew answers what the reference's answers, and keeps nothing. Conditions: none beyond the statement's own. -/
import Derived.Test.YteblgnkfdkoapabQFnExactSessionNewPure0
import Derived.Test.YteblgnkfdkoapabBase
namespace Go.Proofs.Yteblgnkfdkoapab.Pure
open Go.RowKit Go.Proofs.Yteblgnkfdkoapab.QFnExactSessionNew Go.Proofs.YteblgnkfdkoapabW.PrintWords Go.Proofs.YteblgnkfdkoapabW.PrintLast Go.Proofs.YteblgnkfdkoapabB Go.Proofs.YteblgnkfdkoapabO
set_option linter.unusedVariables false
set_option linter.unusedSimpArgs false


theorem eqStr (k : Nat) : laws_eqStringS.f (k + 1) [] [] = some true := by simp [laws_eqStringS.f, laws_eqStringS.l0]
theorem eqMai (k : Nat) : laws_eqMailS.f (k + 1) [] [] = some true := by simp [laws_eqMailS.f, laws_eqMailS.l0]
theorem eqBoo (k : Nat) : laws_eqBoolS.f (k + 1) [] [] = some true := by simp [laws_eqBoolS.f, laws_eqBoolS.l0]
theorem eqInt (k : Nat) : laws_eqIntS.f (k + 1) [] [] = some true := by simp [laws_eqIntS.f, laws_eqIntS.l0]
theorem mkStr (k : Nat) : laws_markStringS.f (k + 1) [] 1 = some (1, []) := by simp [laws_markStringS.f, laws_markStringS.l0]
theorem mkMai (k : Nat) : laws_markMailS.f (k + 1) [] 1 = some (1, []) := by simp [laws_markMailS.f, laws_markMailS.l0]
theorem mkBoo (k : Nat) : laws_markBoolS.f (k + 1) [] 1 = some (1, []) := by simp [laws_markBoolS.f, laws_markBoolS.l0]
theorem mkInt (k : Nat) : laws_markIntS.f (k + 1) [] 1 = some (1, []) := by simp [laws_markIntS.f, laws_markIntS.l0]
theorem hdStr (k : Nat) : laws_heldStringS.f (k + 1) [] 1 = some 1 := by simp [laws_heldStringS.f, laws_heldStringS.l0]
theorem hdMai (k : Nat) : laws_heldMailS.f (k + 1) [] 1 = some 1 := by simp [laws_heldMailS.f, laws_heldMailS.l0]
theorem hdBoo (k : Nat) : laws_heldBoolS.f (k + 1) [] 1 = some 1 := by simp [laws_heldBoolS.f, laws_heldBoolS.l0]
theorem hdInt (k : Nat) : laws_heldIntS.f (k + 1) [] 1 = some 1 := by simp [laws_heldIntS.f, laws_heldIntS.l0]
theorem eqAll (k : Nat) (a : Int) (b c : ByteArray) (d : Bool) (e : Int) (f : ByteArray) (g : Int) (h : ByteArray) (i : Int) (j l : ByteArray) (m : Int) :
    laws_eqSession.f (k + 1) a b c d e f [] [] g h [] [] i j l m [] a b c d e f [] [] g h [] [] i j l m [] = some true := by
  have hd : ¬ ((d != d) = true) := by cases d <;> decide
  unfold laws_eqSession.f laws_eqBring.f laws_eqFetch.f laws_eqLook.f
  simp only [if_true, if_neg hd, eqStr, eqMai, eqBoo, eqInt, Option.bind_some]
theorem mkAll (k : Nat) (a : Int) (b c : ByteArray) (d : Bool) (e : Int) (f : ByteArray) (g : Int) (h : ByteArray) (i : Int) (j l : ByteArray) (m : Int) :
    laws_markSession.f (k + 1) a b c d e f [] [] g h [] [] i j l m [] 1 = some (1, [], [], [], [], []) := by
  unfold laws_markSession.f laws_markBring.f laws_markFetch.f laws_markLook.f
  simp only [mkStr, mkMai, mkBoo, mkInt, Option.bind_some]
theorem hdAll (k : Nat) (a : Int) (b c : ByteArray) (d : Bool) (e : Int) (f : ByteArray) (g : Int) (h : ByteArray) (i : Int) (j l : ByteArray) (m : Int) :
    laws_heldSession.f (k + 1) a b c d e f [] [] g h [] [] i j l m [] 1 = some 1 := by
  have h1 : ¬ (1 : Int) < 0 := by decide
  unfold laws_heldSession.f laws_heldBring.f laws_heldFetch.f laws_heldLook.f
  simp only [hdStr, hdMai, hdBoo, hdInt, Option.bind_some, if_neg h1]
theorem all (z : Int) (a : Int) (b c : ByteArray) (d : Bool) (e : Int) (f : ByteArray) (g : Int) (h : ByteArray) (i : Int) (j l : ByteArray) (m : Int) (n : Bool)
    (h1 : spec_SessionNew.f z = some (a, b, c, d, e, f, [], [], g, h, [], [], i, j, l, m, [], n)) (h2 : impl_SessionNew.f z = some (a, b, c, d, e, f, [], [], g, h, [], [], i, j, l, m, [], n)) :
    laws_FnExactSessionNew.f 1 z = some true := by
  have hn : ¬ ((n != n) = true) := by cases n <;> decide
  have h3 : ¬ (1 : Int) < 0 := by decide
  unfold laws_FnExactSessionNew.f
  simp only [h1, h2, Option.bind_some, eqAll 0, mkAll 0, hdAll 0, if_true, if_neg hn, if_neg h3]
theorem FnExactSessionNew : laws_FnExactSessionNew.Pure := by
  intro a0 _
  refine ⟨1, ?_⟩
  by_cases c1 : a0 = 1
  · subst c1
    exact all 1 _ _ _ _ _ _ _ _ _ _ _ _ _ (by unfold spec_SessionNew.f; rw [if_pos rfl]; rfl) (by unfold impl_SessionNew.f; rw [if_pos rfl])
  by_cases c2 : a0 = 2
  · subst c2
    exact all 2 _ _ _ _ _ _ _ _ _ _ _ _ _ (by unfold spec_SessionNew.f; rw [if_neg (by decide), if_pos rfl]; rfl) (by unfold impl_SessionNew.f; rw [if_neg (by decide), if_pos rfl])
  by_cases c3 : a0 = 3
  · subst c3
    exact all 3 _ _ _ _ _ _ _ _ _ _ _ _ _ (by unfold spec_SessionNew.f; rw [if_neg (by decide), if_neg (by decide), if_pos rfl]; rfl) (by unfold impl_SessionNew.f; rw [if_neg (by decide), if_neg (by decide), if_pos rfl])
  · exact all a0 _ _ _ _ _ _ _ _ _ _ _ _ _ (by unfold spec_SessionNew.f spec_SessionNew_o.f; rw [if_neg c1, if_neg c2, if_neg c3, if_neg c1, if_neg c2, if_neg c3]) (by unfold impl_SessionNew.f; rw [if_neg c1, if_neg c2, if_neg c3])

end Go.Proofs.Yteblgnkfdkoapab.Pure
