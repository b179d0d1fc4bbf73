/- What the class package's functions over its table tell: contracts of table, sizes, Of, Size and aligned, walked by hand. Conditions: none. -/
import Derived.Test.YtebhcnjffeoghaaProg
import Derived.Below
import Derived.Deep.Draws
import Derived.OwnWalk
import Derived.Tactics
import Derived.WalkKit
import Derived.WalkLawsBesides
import Derived.WalkSpells
import Derived.KernelRfl
import Derived.RowKit3
import Derived.LoopTactic
import Derived.Outline
import Derived.Deep.LoopGhost
import Derived.Deep.QuietTactic
import Derived.BigQuiet
import Derived.WideLaws
import Derived.Laws.Rows
import Derived.RowKit
import Derived.Test.YtebhcnjffeoghaaWWords
namespace Go.Proofs.Ytebhcnjffeoghaa.X
open Go.RowKit Go.Proofs.YtebhcnjffeoghaaW.PrintWords
set_option linter.unusedVariables false
set_option linter.unusedSimpArgs false

def tab : Array Value := #[.int .i64 1, .int .i64 2, .int .i64 4, .int .i64 8, .int .i64 16, .int .i64 32, .int .i64 64, .int .i64 128]

theorem table_calls (w : World) : Calls Try.prog 25 #[] w fun e w' => e = .returned (.agg tab) ∧ Below w.heap.size w w' := by
  go_enter Try.func25, Try.ntmps25
  go_wp2
  refine bodyPost_ret (v := .agg tab) (by simp [results, Try.results25, go_sem, tab]) rfl ⟨rfl, ?_⟩
  exact (Below.refl _ _).alloc (Nat.le_refl _) _

def SzPost (w : World) (e : Ending) (w' : World) : Prop := ∃ B, e = .returned (.slice (some ⟨B, 0, none⟩) 5 5) ∧ w'.cell? ⟨B, 0, none⟩ = some (.int .i64 1) ∧ w'.cell? ⟨B, 1, none⟩ = some (.int .i64 2) ∧ w'.cell? ⟨B, 2, none⟩ = some (.int .i64 4) ∧ w'.cell? ⟨B, 3, none⟩ = some (.int .i64 8) ∧ w'.cell? ⟨B, 4, none⟩ = some (.int .i64 16) ∧ Below w.heap.size w w'

set_option maxHeartbeats 400000 in
theorem sizes_calls (w : World) : Calls Try.prog 22 #[] w (SzPost w) := by
  go_enter Try.func22, Try.ntmps22
  go_wp2_with (go_at_call 25; refine (table_calls _).mono ?_; rintro e w1 ⟨rfl, hb⟩; simp only [tab])
  go_ret
  refine ⟨_, rfl, by simp, by simp, by simp, by simp, by simp, hb.alloc hb.size _⟩

def ofN (n : Int) : Int := if n ≤ 1 then 0 else if n ≤ 2 then 1 else if n ≤ 4 then 2 else if n ≤ 8 then 3 else if n ≤ 16 then 4 else -1
def class_Of.f (a0 : Int) : Option (Int) := some (ofN a0)
theorem ofN_0 (n : Int) (h : n ≤ 1) : ofN n = 0 := by unfold ofN; rw [if_pos h]
theorem ofN_1 (n : Int) (h : n ≤ 2) (h1 : 1 < n) : ofN n = 1 := by unfold ofN; rw [if_neg (by omega), if_pos h]
theorem ofN_2 (n : Int) (h : n ≤ 4) (h1 : 2 < n) : ofN n = 2 := by unfold ofN; rw [if_neg (by omega), if_neg (by omega), if_pos h]
theorem ofN_3 (n : Int) (h : n ≤ 8) (h1 : 4 < n) : ofN n = 3 := by unfold ofN; rw [if_neg (by omega), if_neg (by omega), if_neg (by omega), if_pos h]
theorem ofN_4 (n : Int) (h : n ≤ 16) (h1 : 8 < n) : ofN n = 4 := by unfold ofN; rw [if_neg (by omega), if_neg (by omega), if_neg (by omega), if_neg (by omega), if_pos h]
theorem ofN_5 (n : Int) (h1 : 16 < n) : ofN n = -1 := by unfold ofN; rw [if_neg (by omega), if_neg (by omega), if_neg (by omega), if_neg (by omega), if_neg (by omega)]
theorem ret_int {k : IntKind} {a b : Int} (h : a = b) : Ending.returned (.int k a) = .returned (.int k b) := by rw [h]

set_option maxHeartbeats 1000000 in
theorem class_Of.calls (a0 : Int) (r : Int) (w : World) (h : class_Of.f a0 = some r) :
    Calls Try.prog 9 #[.int .i64 a0] w fun e w' => e = .returned (.int .i64 r) ∧ Below w.heap.size w w' := by
  obtain rfl : ofN a0 = r := Option.some.inj h
  clear h
  go_enter Try.func9, Try.ntmps9
  go_wp2_with (go_at_call 22; refine (sizes_calls _).mono ?_; rintro e w1 ⟨B, rfl, c0, c1, c2, c3, c4, hb⟩)
  go_loop [7] (fun i => ∃ k : Nat, i = .int .i64 k ∧ (k = 0 ∨ (k = 1 ∧ 1 < a0) ∨ (k = 2 ∧ 2 < a0) ∨ (k = 3 ∧ 4 < a0) ∨ (k = 4 ∧ 8 < a0) ∨ (k = 5 ∧ 16 < a0))) (fun i => 5 - (intOf i).toNat)
  case atStart => exact ⟨0, rfl, .inl rfl⟩
  case round =>
    obtain ⟨k, rfl, hk⟩ := hrel
    rcases hk with rfl | ⟨rfl, hk⟩ | ⟨rfl, hk⟩ | ⟨rfl, hk⟩ | ⟨rfl, hk⟩ | ⟨rfl, hk⟩
    · by_cases h : a0 ≤ 1
      · go_wp2
        go_ret
        exact ⟨ret_int (ofN_0 _ h).symm, hb⟩
      · go_wp2
        go_round
        case rel => exact ⟨1, rfl, .inr (.inl ⟨rfl, by omega⟩)⟩
        case measure => simp [intOf]
    · by_cases h : a0 ≤ 2
      · go_wp2
        go_ret
        exact ⟨ret_int (ofN_1 _ h hk).symm, hb⟩
      · go_wp2
        go_round
        case rel => exact ⟨2, rfl, .inr (.inr (.inl ⟨rfl, by omega⟩))⟩
        case measure => simp [intOf]
    · by_cases h : a0 ≤ 4
      · go_wp2
        go_ret
        exact ⟨ret_int (ofN_2 _ h hk).symm, hb⟩
      · go_wp2
        go_round
        case rel => exact ⟨3, rfl, .inr (.inr (.inr (.inl ⟨rfl, by omega⟩)))⟩
        case measure => simp [intOf]
    · by_cases h : a0 ≤ 8
      · go_wp2
        go_ret
        exact ⟨ret_int (ofN_3 _ h hk).symm, hb⟩
      · go_wp2
        go_round
        case rel => exact ⟨4, rfl, .inr (.inr (.inr (.inr (.inl ⟨rfl, by omega⟩))))⟩
        case measure => simp [intOf]
    · by_cases h : a0 ≤ 16
      · go_wp2
        go_ret
        exact ⟨ret_int (ofN_4 _ h hk).symm, hb⟩
      · go_wp2
        go_round
        case rel => exact ⟨5, rfl, .inr (.inr (.inr (.inr (.inr ⟨rfl, by omega⟩))))⟩
        case measure => simp [intOf]
    · go_wp2
      go_ret
      exact ⟨ret_int (ofN_5 _ hk).symm, hb⟩

def sizeN (c : Int) : Int := if c = 0 then 1 else if c = 1 then 2 else if c = 2 then 4 else if c = 3 then 8 else if c = 4 then 16 else 0
def class_Size.f (a0 : Int) : Option (Int) := some (sizeN a0)

set_option maxHeartbeats 1000000 in
theorem class_Size.calls (a0 : Int) (r : Int) (w : World) (h : class_Size.f a0 = some r) :
    Calls Try.prog 13 #[.int .i64 a0] w fun e w' => e = .returned (.int .i64 r) ∧ Below w.heap.size w w' := by
  obtain rfl : sizeN a0 = r := Option.some.inj h
  clear h
  by_cases hlo : a0 < 0
  · have hz : sizeN a0 = 0 := by unfold sizeN; rw [if_neg (by omega), if_neg (by omega), if_neg (by omega), if_neg (by omega), if_neg (by omega)]
    rw [hz]; clear hz
    go_enter Try.func13, Try.ntmps13
    go_wp2_with (go_at_call 22; refine (sizes_calls _).mono ?_; rintro e w1 ⟨B, rfl, c0, c1, c2, c3, c4, hb⟩)
    go_ret
    exact ⟨rfl, Below.refl _ _⟩
  · by_cases hhi : 5 ≤ a0
    · have hz : sizeN a0 = 0 := by unfold sizeN; rw [if_neg (by omega), if_neg (by omega), if_neg (by omega), if_neg (by omega), if_neg (by omega)]
      rw [hz]; clear hz
      go_enter Try.func13, Try.ntmps13
      go_wp2_with (go_at_call 22; refine (sizes_calls _).mono ?_; rintro e w1 ⟨B, rfl, c0, c1, c2, c3, c4, hb⟩)
      go_ret
      exact ⟨rfl, Below.refl _ _⟩
    · have hk : a0 = 0 ∨ a0 = 1 ∨ a0 = 2 ∨ a0 = 3 ∨ a0 = 4 := by omega
      clear hlo hhi
      rcases hk with rfl | rfl | rfl | rfl | rfl
      all_goals
        go_enter Try.func13, Try.ntmps13
        go_wp2_with (go_at_call 22; refine (sizes_calls _).mono ?_; rintro e w1 ⟨B, rfl, c0, c1, c2, c3, c4, hb⟩)
        go_ret
        exact ⟨rfl, hb⟩

def alignedB (a : Int) : Bool := a == 1 || a == 2 || a == 4 || a == 8 || a == 16 || a == 32 || a == 64 || a == 128
def class_aligned.f (a0 : Int) : Option (Bool) := some (alignedB a0)

theorem ret_bool {a b : Bool} (h : a = b) : Ending.returned (.bool a) = .returned (.bool b) := by rw [h]

set_option maxHeartbeats 2000000 in
theorem class_aligned.calls (a0 : Int) (r : Bool) (w : World) (h : class_aligned.f a0 = some r) :
    Calls Try.prog 23 #[.int .i64 a0] w fun e w' => e = .returned (.bool r) ∧ Below w.heap.size w w' := by
  obtain rfl : alignedB a0 = r := Option.some.inj h
  clear h
  have i0 : ∀ w : World, (Instr.index 39 (.agg #[.int .i64 1, .int .i64 2, .int .i64 4, .int .i64 8, .int .i64 16, .int .i64 32, .int .i64 64, .int .i64 128]) (.int .i64 0)).run Try.prog w = .ok (.int .i64 1) w := fun _ => by kernel_rfl
  have i1 : ∀ w : World, (Instr.index 39 (.agg #[.int .i64 1, .int .i64 2, .int .i64 4, .int .i64 8, .int .i64 16, .int .i64 32, .int .i64 64, .int .i64 128]) (.int .i64 1)).run Try.prog w = .ok (.int .i64 2) w := fun _ => by kernel_rfl
  have i2 : ∀ w : World, (Instr.index 39 (.agg #[.int .i64 1, .int .i64 2, .int .i64 4, .int .i64 8, .int .i64 16, .int .i64 32, .int .i64 64, .int .i64 128]) (.int .i64 2)).run Try.prog w = .ok (.int .i64 4) w := fun _ => by kernel_rfl
  have i3 : ∀ w : World, (Instr.index 39 (.agg #[.int .i64 1, .int .i64 2, .int .i64 4, .int .i64 8, .int .i64 16, .int .i64 32, .int .i64 64, .int .i64 128]) (.int .i64 3)).run Try.prog w = .ok (.int .i64 8) w := fun _ => by kernel_rfl
  have i4 : ∀ w : World, (Instr.index 39 (.agg #[.int .i64 1, .int .i64 2, .int .i64 4, .int .i64 8, .int .i64 16, .int .i64 32, .int .i64 64, .int .i64 128]) (.int .i64 4)).run Try.prog w = .ok (.int .i64 16) w := fun _ => by kernel_rfl
  have i5 : ∀ w : World, (Instr.index 39 (.agg #[.int .i64 1, .int .i64 2, .int .i64 4, .int .i64 8, .int .i64 16, .int .i64 32, .int .i64 64, .int .i64 128]) (.int .i64 5)).run Try.prog w = .ok (.int .i64 32) w := fun _ => by kernel_rfl
  have i6 : ∀ w : World, (Instr.index 39 (.agg #[.int .i64 1, .int .i64 2, .int .i64 4, .int .i64 8, .int .i64 16, .int .i64 32, .int .i64 64, .int .i64 128]) (.int .i64 6)).run Try.prog w = .ok (.int .i64 64) w := fun _ => by kernel_rfl
  have i7 : ∀ w : World, (Instr.index 39 (.agg #[.int .i64 1, .int .i64 2, .int .i64 4, .int .i64 8, .int .i64 16, .int .i64 32, .int .i64 64, .int .i64 128]) (.int .i64 7)).run Try.prog w = .ok (.int .i64 128) w := fun _ => by kernel_rfl
  go_enter Try.func23, Try.ntmps23
  go_wp2_with (go_at_call 25; refine (table_calls _).mono ?_; rintro e w1 ⟨rfl, hb⟩; simp only [tab])
  go_loop [6] (fun i => ∃ k : Nat, i = .int .i64 k ∧ k ≤ 8 ∧ (0 < k → a0 ≠ 1) ∧ (1 < k → a0 ≠ 2) ∧ (2 < k → a0 ≠ 4) ∧ (3 < k → a0 ≠ 8) ∧ (4 < k → a0 ≠ 16) ∧ (5 < k → a0 ≠ 32) ∧ (6 < k → a0 ≠ 64) ∧ (7 < k → a0 ≠ 128)) (fun i => 8 - (intOf i).toNat)
  case atStart => exact ⟨0, rfl, by omega, by omega, by omega, by omega, by omega, by omega, by omega, by omega, by omega⟩
  case round =>
    obtain ⟨k, rfl, hk, n0, n1, n2, n3, n4, n5, n6, n7⟩ := hrel
    have HN := Aside0.mk (And.intro n0 (And.intro n1 (And.intro n2 (And.intro n3 (And.intro n4 (And.intro n5 (And.intro n6 n7)))))))
    clear n0 n1 n2 n3 n4 n5 n6 n7
    have hk9 : k = 0 ∨ k = 1 ∨ k = 2 ∨ k = 3 ∨ k = 4 ∨ k = 5 ∨ k = 6 ∨ k = 7 ∨ k = 8 := by omega
    clear hk
    rcases hk9 with rfl | rfl | rfl | rfl | rfl | rfl | rfl | rfl | rfl
    case inr.inr.inr.inr.inr.inr.inr.inr =>
      go_wp2
      go_ret
      obtain ⟨n0, n1, n2, n3, n4, n5, n6, n7⟩ := HN.out
      refine ⟨ret_bool ?_, hb⟩
      symm; unfold alignedB
      simp [n0 (by decide), n1 (by decide), n2 (by decide), n3 (by decide), n4 (by decide), n5 (by decide), n6 (by decide), n7 (by decide)]
    · by_cases h : (1 : Int) = a0
      · subst h
        clear HN
        go_wp2
        go_ret
        exact ⟨rfl, hb⟩
      · have hq : ((1 : Int) == a0) = false := beq_eq_false_iff_ne.2 h
        go_wp2
        go_round
        case rel =>
          obtain ⟨n0, n1, n2, n3, n4, n5, n6, n7⟩ := HN.out
          exact ⟨1, rfl, by omega, (fun _ e => h e.symm), (fun hh => absurd hh (by decide)), (fun hh => absurd hh (by decide)), (fun hh => absurd hh (by decide)), (fun hh => absurd hh (by decide)), (fun hh => absurd hh (by decide)), (fun hh => absurd hh (by decide)), (fun hh => absurd hh (by decide))⟩
        case measure => simp [intOf]
    · by_cases h : (2 : Int) = a0
      · subst h
        clear HN
        go_wp2
        go_ret
        exact ⟨rfl, hb⟩
      · have hq : ((2 : Int) == a0) = false := beq_eq_false_iff_ne.2 h
        go_wp2
        go_round
        case rel =>
          obtain ⟨n0, n1, n2, n3, n4, n5, n6, n7⟩ := HN.out
          exact ⟨2, rfl, by omega, (fun _ => n0 (by decide)), (fun _ e => h e.symm), (fun hh => absurd hh (by decide)), (fun hh => absurd hh (by decide)), (fun hh => absurd hh (by decide)), (fun hh => absurd hh (by decide)), (fun hh => absurd hh (by decide)), (fun hh => absurd hh (by decide))⟩
        case measure => simp [intOf]
    · by_cases h : (4 : Int) = a0
      · subst h
        clear HN
        go_wp2
        go_ret
        exact ⟨rfl, hb⟩
      · have hq : ((4 : Int) == a0) = false := beq_eq_false_iff_ne.2 h
        go_wp2
        go_round
        case rel =>
          obtain ⟨n0, n1, n2, n3, n4, n5, n6, n7⟩ := HN.out
          exact ⟨3, rfl, by omega, (fun _ => n0 (by decide)), (fun _ => n1 (by decide)), (fun _ e => h e.symm), (fun hh => absurd hh (by decide)), (fun hh => absurd hh (by decide)), (fun hh => absurd hh (by decide)), (fun hh => absurd hh (by decide)), (fun hh => absurd hh (by decide))⟩
        case measure => simp [intOf]
    · by_cases h : (8 : Int) = a0
      · subst h
        clear HN
        go_wp2
        go_ret
        exact ⟨rfl, hb⟩
      · have hq : ((8 : Int) == a0) = false := beq_eq_false_iff_ne.2 h
        go_wp2
        go_round
        case rel =>
          obtain ⟨n0, n1, n2, n3, n4, n5, n6, n7⟩ := HN.out
          exact ⟨4, rfl, by omega, (fun _ => n0 (by decide)), (fun _ => n1 (by decide)), (fun _ => n2 (by decide)), (fun _ e => h e.symm), (fun hh => absurd hh (by decide)), (fun hh => absurd hh (by decide)), (fun hh => absurd hh (by decide)), (fun hh => absurd hh (by decide))⟩
        case measure => simp [intOf]
    · by_cases h : (16 : Int) = a0
      · subst h
        clear HN
        go_wp2
        go_ret
        exact ⟨rfl, hb⟩
      · have hq : ((16 : Int) == a0) = false := beq_eq_false_iff_ne.2 h
        go_wp2
        go_round
        case rel =>
          obtain ⟨n0, n1, n2, n3, n4, n5, n6, n7⟩ := HN.out
          exact ⟨5, rfl, by omega, (fun _ => n0 (by decide)), (fun _ => n1 (by decide)), (fun _ => n2 (by decide)), (fun _ => n3 (by decide)), (fun _ e => h e.symm), (fun hh => absurd hh (by decide)), (fun hh => absurd hh (by decide)), (fun hh => absurd hh (by decide))⟩
        case measure => simp [intOf]
    · by_cases h : (32 : Int) = a0
      · subst h
        clear HN
        go_wp2
        go_ret
        exact ⟨rfl, hb⟩
      · have hq : ((32 : Int) == a0) = false := beq_eq_false_iff_ne.2 h
        go_wp2
        go_round
        case rel =>
          obtain ⟨n0, n1, n2, n3, n4, n5, n6, n7⟩ := HN.out
          exact ⟨6, rfl, by omega, (fun _ => n0 (by decide)), (fun _ => n1 (by decide)), (fun _ => n2 (by decide)), (fun _ => n3 (by decide)), (fun _ => n4 (by decide)), (fun _ e => h e.symm), (fun hh => absurd hh (by decide)), (fun hh => absurd hh (by decide))⟩
        case measure => simp [intOf]
    · by_cases h : (64 : Int) = a0
      · subst h
        clear HN
        go_wp2
        go_ret
        exact ⟨rfl, hb⟩
      · have hq : ((64 : Int) == a0) = false := beq_eq_false_iff_ne.2 h
        go_wp2
        go_round
        case rel =>
          obtain ⟨n0, n1, n2, n3, n4, n5, n6, n7⟩ := HN.out
          exact ⟨7, rfl, by omega, (fun _ => n0 (by decide)), (fun _ => n1 (by decide)), (fun _ => n2 (by decide)), (fun _ => n3 (by decide)), (fun _ => n4 (by decide)), (fun _ => n5 (by decide)), (fun _ e => h e.symm), (fun hh => absurd hh (by decide))⟩
        case measure => simp [intOf]
    · by_cases h : (128 : Int) = a0
      · subst h
        clear HN
        go_wp2
        go_ret
        exact ⟨rfl, hb⟩
      · have hq : ((128 : Int) == a0) = false := beq_eq_false_iff_ne.2 h
        go_wp2
        go_round
        case rel =>
          obtain ⟨n0, n1, n2, n3, n4, n5, n6, n7⟩ := HN.out
          exact ⟨8, rfl, by omega, (fun _ => n0 (by decide)), (fun _ => n1 (by decide)), (fun _ => n2 (by decide)), (fun _ => n3 (by decide)), (fun _ => n4 (by decide)), (fun _ => n5 (by decide)), (fun _ => n6 (by decide)), (fun _ e => h e.symm)⟩
        case measure => simp [intOf]

def slotsN (c : Int) : Int := if c = 0 then 32 else if c = 1 then 16 else if c = 2 then 8 else if c = 3 then 4 else if c = 4 then 2 else 0
def class_Slots.f (a0 : Int) : Option (Int) := some (slotsN a0)

set_option maxHeartbeats 1000000 in
theorem class_Slots.calls (a0 : Int) (r : Int) (w : World) (h : class_Slots.f a0 = some r) :
    Calls Try.prog 15 #[.int .i64 a0] w fun e w' => e = .returned (.int .i64 r) ∧ Below w.heap.size w w' := by
  obtain rfl : slotsN a0 = r := Option.some.inj h
  clear h
  by_cases hk : a0 = 0 ∨ a0 = 1 ∨ a0 = 2 ∨ a0 = 3 ∨ a0 = 4
  · rcases hk with rfl | rfl | rfl | rfl | rfl
    all_goals
      go_enter Try.func15, Try.ntmps15
      go_wp2_with (go_at_call 13; refine (class_Size.calls _ _ _ rfl).mono ?_; rintro e w1 ⟨rfl, hb⟩; simp only [sizeN, Int.reduceEq, if_true, if_false])
      go_ret
      exact ⟨rfl, hb⟩
  · have hz : slotsN a0 = 0 := by unfold slotsN; rw [if_neg (by omega), if_neg (by omega), if_neg (by omega), if_neg (by omega), if_neg (by omega)]
    have hs : class_Size.f a0 = some 0 := by unfold class_Size.f sizeN; rw [if_neg (by omega), if_neg (by omega), if_neg (by omega), if_neg (by omega), if_neg (by omega)]
    have HS := Aside0.mk hs
    rw [hz]; clear hz hs hk
    go_enter Try.func15, Try.ntmps15
    go_wp2_with (go_at_call 13; refine (class_Size.calls _ _ _ HS.out).mono ?_; rintro e w1 ⟨rfl, hb⟩)
    go_ret
    exact ⟨rfl, hb⟩

end Go.Proofs.Ytebhcnjffeoghaa.X
