/- The walk of NamesBack: true for every input. -/
import Derived.Test.YtdaijofmglpmdaaDoorNamesTellW
namespace Go.Proofs.YtdaijofmglpmdaaDoor
open Go.RowKit Go.Shelf
set_option maxRecDepth 100000
set_option linter.unusedVariables false
def okByte (c : UInt8) : Bool := (97 ≤ c && c ≤ 122) || (48 ≤ c && c ≤ 57) || c == 46
def nameB (l : List UInt8) : Bool := l.all okByte && (1 ≤ l.length && l.length ≤ 8)
theorem okByte_iff (c : UInt8) : okByte c = true ↔ ((97 ≤ (c.toNat : Int) ∧ (c.toNat : Int) ≤ 122) ∨ (48 ≤ (c.toNat : Int) ∧ (c.toNat : Int) ≤ 57) ∨ (c.toNat : Int) = 46) := by
  unfold okByte
  simp only [Bool.or_eq_true, Bool.and_eq_true, decide_eq_true_eq, beq_iff_eq, UInt8.le_iff_toNat_le, ← UInt8.toNat_inj]
  have h1 : (97 : UInt8).toNat = 97 := rfl
  have h2 : (122 : UInt8).toNat = 122 := rfl
  have h3 : (48 : UInt8).toNat = 48 := rfl
  have h4 : (57 : UInt8).toNat = 57 := rfl
  have h5 : (46 : UInt8).toNat = 46 := rfl
  rw [h1, h2, h3, h4, h5]; omega
theorem byte_cases (c : Int) : (c < 46 ∧ (c == 46) = false) ∨ (c = 46) ∨ (46 < c ∧ c < 48 ∧ (c == 46) = false) ∨ (48 ≤ c ∧ c ≤ 57 ∧ (c == 46) = false) ∨ (57 < c ∧ c < 97 ∧ (c == 46) = false) ∨ (97 ≤ c ∧ c ≤ 122 ∧ (c == 46) = false) ∨ (122 < c ∧ (c == 46) = false) := by
  simp only [beq_eq_false_iff_ne]; omega
theorem take_all {l : List UInt8} {k : Nat} (h : (l.take k).all okByte = true) (hk : k < l.length) (hc : okByte l[k] = true) : (l.take (k + 1)).all okByte = true := by
  rw [List.take_succ_eq_append_getElem hk, List.all_append, h]; simp [hc]
theorem nameB_bad {l : List UInt8} {k : Nat} (hk : k < l.length) (hc : okByte l[k] = false) : nameB l = false := by
  have : l.all okByte = false := by
    rw [List.all_eq_false]; exact ⟨l[k], List.getElem_mem hk, by simp [hc]⟩
  simp [nameB, this]
set_option maxHeartbeats 1000000 in
theorem nameR (l : List UInt8) (w : World) (hl : l.length ≤ 200) : Calls Tryd.prog 18 #[S l] w fun e w' => e = .returned (.bool (nameB l)) ∧ w = w' := by
  go_enter Tryd.func18, Tryd.ntmps18
  go_wp2_with fail
  go_loop [3] (fun i => ∃ k : Nat, k ≤ l.length ∧ i = .int .i64 k ∧ (l.take k).all okByte = true) (fun i => l.length - (intOf i).toNat)
  case atStart => exact ⟨0, Nat.zero_le _, rfl, by simp⟩
  case round =>
    obtain ⟨k, hk, rfl, hall⟩ := hrel
    have Hall := Lib.hid hall
    clear hall
    by_cases hlt : k < l.length
    · have hix : (⟨l.toArray⟩ : ByteArray)[k]'hlt = l[k] := rfl
      have Hok := Lib.hid (okByte_iff l[k])
      generalize hc : ((l[k].toNat : Nat) : Int) = c at Hok
      have hcs := byte_cases c
      rcases hcs with ⟨h1, h2⟩ | h1 | ⟨h1, h2, h3⟩ | ⟨h1, h2, h3⟩ | ⟨h1, h2, h3⟩ | ⟨h1, h2, h3⟩ | ⟨h1, h2⟩
      case inr.inl => 
        subst h1
        have Ho : okByte l[k] = true := Hok.out.2 (by omega)
        have HO := Lib.hid Ho
        clear Hok Ho
        go_wp2_with fail
        go_round
        case rel => exact ⟨k + 1, by omega, by go_num, take_all Hall.out hlt HO.out⟩
        case measure => simp [intOf]; omega
      case inr.inr.inr.inl | inr.inr.inr.inr.inr.inl =>
        have Ho : okByte l[k] = true := Hok.out.2 (by omega)
        have HO := Lib.hid Ho
        clear Hok Ho
        go_wp2_with fail
        go_round
        case rel => exact ⟨k + 1, by omega, by go_num, take_all Hall.out hlt HO.out⟩
        case measure => simp [intOf]; omega
      all_goals
        have Ho : okByte l[k] = false := by
          rw [Bool.eq_false_iff]; intro h; have := Hok.out.1 h; simp only [beq_eq_false_iff_ne] at *; omega
        have HO := Lib.hid (nameB_bad hlt Ho)
        clear Hok Ho
        have e57 : 57 < c → decide (c ≤ 57) = false := fun h => by simpa using h
        have e122 : 122 < c → decide (c ≤ 122) = false := fun h => by simpa using h
        first | (have e1 := e57 (by omega); have e2 := e122 (by omega)) | (have e1 := e57 (by omega)) | skip
        clear e57 e122
        go_wp2_with fail
        go_ret
        exact ⟨by rw [HO.out]; rfl, rfl⟩
    · have Ha : l.all okByte = true := by have := Hall.out; rwa [List.take_of_length_le (by omega)] at this
      have HN0 : nameB l = (1 ≤ l.length && l.length ≤ 8) := by simp [nameB, Ha]
      clear Ha
      have h3 : l.length < 1 ∨ (1 ≤ l.length ∧ l.length ≤ 8) ∨ 8 < l.length := by omega
      rcases h3 with h0 | ⟨h0, h1⟩ | h0
      · have HN := Lib.hid (show nameB l = false by rw [HN0]; simp; omega)
        clear HN0
        go_wp2_with fail
        go_ret
        exact ⟨by rw [HN.out]; rfl, rfl⟩
      · have HN := Lib.hid (show nameB l = true by rw [HN0]; simp; omega)
        clear HN0
        have e8 : decide ((l.length : Int) ≤ 8) = true := by simp; omega
        go_wp2_with fail
        go_ret
        exact ⟨by rw [HN.out]; rfl, rfl⟩
      · have HN := Lib.hid (show nameB l = false by rw [HN0]; simp; omega)
        clear HN0
        have e8 : decide ((l.length : Int) ≤ 8) = false := by simp; omega
        go_wp2_with fail
        go_ret
        exact ⟨by rw [HN.out]; rfl, rfl⟩

/- plain facts on names -/
theorem digU_inj {a b : Int} (ha : 0 ≤ a) (ha' : a ≤ 9) (hb : 0 ≤ b) (hb' : b ≤ 9) : ((48 + a.toNat).toUInt8 = (48 + b.toNat).toUInt8) ↔ a = b := by
  constructor
  · intro h
    have := congrArg UInt8.toNat h
    simp only [Nat.toUInt8, UInt8.toNat_ofNat'] at this
    omega
  · intro h; rw [h]
theorem metaL_ne {t : Int} (h : metaL t ≠ []) : t = 0 ∨ t = 1 := by
  rcases cases3 t with rfl | rfl | ⟨h0, h1⟩
  · exact .inl rfl
  · exact .inr rfl
  · exact absurd (by simp [metaL, h0, h1]) h
theorem logL_ne {t q : Int} (h : logL t q ≠ []) : (t = 0 ∨ t = 1) ∧ 0 ≤ q ∧ q < 3 := by
  by_cases hq : 0 ≤ q ∧ q < 3
  · rcases cases3 t with rfl | rfl | ⟨h0, h1⟩
    · exact ⟨.inl rfl, hq⟩
    · exact ⟨.inr rfl, hq⟩
    · exact absurd (logL_no t q h0 h1) h
  · exact absurd (logL_out t q hq) h
theorem sideL_ne {q p : Int} (h : sideL q p ≠ []) : 0 ≤ q ∧ q < 3 ∧ 1 ≤ p ∧ p ≤ 8 := by
  by_cases hq : 0 ≤ q ∧ q < 3 ∧ 1 ≤ p ∧ p ≤ 8
  · exact hq
  · exact absurd (sideL_out q p hq) h
theorem metaL_form {t : Int} (h : t = 0 ∨ t = 1) : metaL t = [if t = 0 then 105 else 98, 109] := by rcases h with rfl | rfl <;> rfl
theorem logL_form {t q : Int} (h : t = 0 ∨ t = 1) (h1 : 0 ≤ q) (h2 : q < 3) : logL t q = [if t = 0 then 105 else 98, (48 + q.toNat).toUInt8] := by
  unfold logL digL; rw [if_pos ⟨h1, h2⟩]; rcases h with rfl | rfl <;> rfl
theorem sideL_form {q p : Int} (h : 0 ≤ q ∧ q < 3 ∧ 1 ≤ p ∧ p ≤ 8) : sideL q p = [98, (48 + q.toNat).toUInt8, 46, (48 + p.toNat).toUInt8] := by
  unfold sideL; rw [if_pos h]
theorem meta_facts {t : Int} (h : metaL t ≠ []) : parseV (metaL t) = .tuple #[.int .i8 t, .int .i8 0, .int .i64 0, .int .i64 0, .bool true] ∧ nameB (metaL t) = true ∧ (metaL t == [116]) = false ∧ (metaL t == [120]) = false ∧ (metaL t).isEmpty = false ∧ (metaL t).length ≤ 200 := by
  rcases metaL_ne h with rfl | rfl <;> exact ⟨rfl, rfl, rfl, rfl, rfl, by decide⟩
theorem log_facts {t q : Int} (h : logL t q ≠ []) : parseV (logL t q) = .tuple #[.int .i8 t, .int .i8 1, .int .i64 q, .int .i64 0, .bool true] ∧ nameB (logL t q) = true ∧ (logL t q == [116]) = false ∧ (logL t q == [120]) = false ∧ (logL t q).isEmpty = false ∧ (logL t q).length ≤ 200 := by
  obtain ⟨ht, h1, h2⟩ := logL_ne h
  obtain rfl | rfl | rfl : q = 0 ∨ q = 1 ∨ q = 2 := by omega
  all_goals rcases ht with rfl | rfl <;> exact ⟨rfl, rfl, rfl, rfl, rfl, by decide⟩
theorem side_facts {q p : Int} (h : sideL q p ≠ []) : parseV (sideL q p) = .tuple #[.int .i8 1, .int .i8 2, .int .i64 q, .int .i64 p, .bool true] ∧ nameB (sideL q p) = true ∧ (sideL q p == [116]) = false ∧ (sideL q p == [120]) = false ∧ (sideL q p).isEmpty = false ∧ (sideL q p).length ≤ 200 := by
  obtain ⟨h1, h2, h3, h4⟩ := sideL_ne h
  obtain rfl | rfl | rfl : q = 0 ∨ q = 1 ∨ q = 2 := by omega
  all_goals
    obtain rfl | rfl | rfl | rfl | rfl | rfl | rfl | rfl : p = 1 ∨ p = 2 ∨ p = 3 ∨ p = 4 ∨ p = 5 ∨ p = 6 ∨ p = 7 ∨ p = 8 := by omega
    all_goals exact ⟨rfl, rfl, rfl, rfl, rfl, by decide⟩
theorem u8_109 (q : Int) (h1 : 0 ≤ q) (h2 : q < 3) : (48 + q.toNat).toUInt8 ≠ 109 := by
  obtain rfl | rfl | rfl : q = 0 ∨ q = 1 ∨ q = 2 := by omega
  all_goals decide
theorem eq_mm {t u : Int} (h : metaL t ≠ []) : (metaL t == metaL u) = (t == u) := by
  rcases metaL_ne h with rfl | rfl
  all_goals
    rcases cases3 u with rfl | rfl | ⟨h0, h1⟩
    · rfl
    · rfl
    · have e : metaL u = [] := by simp [metaL, h0, h1]
      rw [e, beq_eq_false_iff_ne.2 h]; symm; exact beq_eq_false_iff_ne.2 (by omega)
theorem eq_ml {t u q : Int} (h : metaL t ≠ []) : (metaL t == logL u q) = false := by
  by_cases hl : logL u q = []
  · rw [hl]; exact beq_eq_false_iff_ne.2 h
  · obtain ⟨hu, h1, h2⟩ := logL_ne hl
    rw [metaL_form (metaL_ne h), logL_form hu h1 h2]
    have := u8_109 q h1 h2
    exact beq_eq_false_iff_ne.2 (fun e => this (by injection e with _ e; injection e with e _; exact e.symm))
theorem eq_ms {t q p : Int} (h : metaL t ≠ []) : (metaL t == sideL q p) = false := by
  by_cases hl : sideL q p = []
  · rw [hl]; exact beq_eq_false_iff_ne.2 h
  · rw [metaL_form (metaL_ne h), sideL_form (sideL_ne hl)]; exact beq_eq_false_iff_ne.2 (by simp)
theorem eq_lm {t q u : Int} (h : logL t q ≠ []) : (logL t q == metaL u) = false := by
  by_cases hm : metaL u = []
  · rw [hm]; exact beq_eq_false_iff_ne.2 h
  · have := eq_ml (u := t) (q := q) hm
    rw [beq_eq_false_iff_ne] at this ⊢; exact fun e => this e.symm
theorem eq_ll {t q u r : Int} (h : logL t q ≠ []) : (logL t q == logL u r) = ((t == u) && (q == r)) := by
  obtain ⟨ht, h1, h2⟩ := logL_ne h
  by_cases hl : logL u r = []
  · rw [hl]
    have : ¬ (t = u ∧ q = r) := fun ⟨e1, e2⟩ => h (by rw [e1, e2]; exact hl)
    rw [beq_eq_false_iff_ne.2 h]; symm; rw [Bool.eq_false_iff]; simpa using this
  · obtain ⟨hu, h3, h4⟩ := logL_ne hl
    rw [logL_form ht h1 h2, logL_form hu h3 h4, Bool.eq_iff_iff]
    simp only [beq_iff_eq, Bool.and_eq_true, List.cons.injEq, and_true]
    rw [digU_inj h1 (by omega) h3 (by omega)]
    rcases ht with rfl | rfl <;> rcases hu with rfl | rfl <;> simp
theorem eq_ls {t q u r : Int} (h : logL t q ≠ []) : (logL t q == sideL u r) = false := by
  obtain ⟨ht, h1, h2⟩ := logL_ne h
  by_cases hl : sideL u r = []
  · rw [hl]; exact beq_eq_false_iff_ne.2 h
  · rw [logL_form ht h1 h2, sideL_form (sideL_ne hl)]; exact beq_eq_false_iff_ne.2 (by simp)
theorem eq_sm {q p u : Int} (h : sideL q p ≠ []) : (sideL q p == metaL u) = false := by
  by_cases hm : metaL u = []
  · rw [hm]; exact beq_eq_false_iff_ne.2 h
  · have := eq_ms (q := q) (p := p) hm
    rw [beq_eq_false_iff_ne] at this ⊢; exact fun e => this e.symm
theorem eq_sl {q p u r : Int} (h : sideL q p ≠ []) : (sideL q p == logL u r) = false := by
  by_cases hm : logL u r = []
  · rw [hm]; exact beq_eq_false_iff_ne.2 h
  · have := eq_ls (u := q) (r := p) hm
    rw [beq_eq_false_iff_ne] at this ⊢; exact fun e => this e.symm
theorem eq_ss {q p u r : Int} (h : sideL q p ≠ []) : (sideL q p == sideL u r) = ((q == u) && (p == r)) := by
  have h1 := sideL_ne h
  by_cases hl : sideL u r = []
  · rw [hl]
    have : ¬ (q = u ∧ p = r) := fun ⟨e1, e2⟩ => h (by rw [e1, e2]; exact hl)
    rw [beq_eq_false_iff_ne.2 h]; symm; rw [Bool.eq_false_iff]; simpa using this
  · have h2 := sideL_ne hl
    rw [sideL_form h1, sideL_form h2, Bool.eq_iff_iff]
    simp only [beq_iff_eq, Bool.and_eq_true, List.cons.injEq, and_true, true_and]
    rw [digU_inj (by omega) (by omega) (by omega) (by omega), digU_inj (by omega) (by omega) (by omega) (by omega)]
end Go.Proofs.YtdaijofmglpmdaaDoor
