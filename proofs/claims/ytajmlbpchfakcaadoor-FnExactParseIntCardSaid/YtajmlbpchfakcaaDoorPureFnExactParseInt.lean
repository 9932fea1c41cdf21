/- The law laws.FnExactParseInt, told as plain Lean functions of numbers, lists and strings, answers true for every input, if enough rounds are given: the program's ParseInt answers what the reference's answers. Conditions: none but the kinds' own (each number one of its kind, each length one that the model reads). -/
import Derived.Test.YtajmlbpchfakcaaDoorPFnExactParseIntx2
import Derived.Test.YtajmlbpchfakcaaDoorBase
import Derived.Lib.ItoaNum
import Derived.Lib.Atoi
namespace Go.Proofs.YtajmlbpchfakcaaDoor.Pure
open Go.RowKit Go.Proofs.YtajmlbpchfakcaaDoor.PFnExactParseInt Go.Proofs.YtajmlbpchfakcaaDoorW.PrintWords Go.Proofs.YtajmlbpchfakcaaDoorW.PrintLast Go.Proofs.YtajmlbpchfakcaaDoorW.PrintMore Go.Proofs.YtajmlbpchfakcaaDoor.Base

theorem bt_list (x : ByteArray) (j : Nat) : bt x (j : Int) = ((x.data.toList.getD j 0).toNat : Int) := by
  unfold bt
  simp only [Int.toNat_natCast]
  by_cases h : j < x.size
  · have h' : j < x.data.toList.length := by simpa using h
    rw [dif_pos h, List.getD, List.getElem?_eq_getElem h']
    rfl
  · have h' : x.data.toList.length ≤ j := by
      have : x.data.toList.length = x.size := by simp
      omega
    rw [dif_neg h, List.getD, List.getElem?_eq_none h']
    rfl
theorem size_list (x : ByteArray) : x.data.toList.length = x.size := by simp
theorem bytes_same {a b : ByteArray} (h : a.data.toList = b.data.toList) : a = b := by
  cases a with
  | mk a => cases b with
    | mk b => simpa using h
theorem in_spec (a lo hi : Int) : spec_l1In.f a lo hi = some (decide (lo ≤ a ∧ a ≤ hi)) := by
  unfold spec_l1In.f
  split
  · congr 1; simp; omega
  · congr 1; simp; omega
theorem dig_one : ∀ d : Fin 10, (⟨#[48, 49, 50, 51, 52, 53, 54, 55, 56, 57]⟩ : ByteArray).extract d.val (d.val + 1) = (⟨#[UInt8.ofNat (48 + d.val)]⟩ : ByteArray) := by decide
theorem dig_at {d : Nat} (h : d < 10) : (⟨#[48, 49, 50, 51, 52, 53, 54, 55, 56, 57]⟩ : ByteArray).extract (d : Int).toNat ((d : Int) + 1).toNat = (⟨#[UInt8.ofNat (48 + d)]⟩ : ByteArray) := by
  rw [Int.toNat_natCast, show ((d : Int) + 1).toNat = d + 1 by omega]
  exact dig_one ⟨d, h⟩
theorem l1Num_nat : ∀ u : Nat, u ≤ 9999999 → Ev (fun k => spec_l1Num.f k (u : Int)) (⟨(Lib.decDigits u).toArray⟩ : ByteArray) ∧ (Lib.decDigits u).length ≤ u + 1 := by
  intro u
  induction u using Nat.strongRecOn with
  | ind u ih =>
    intro hu
    by_cases c : u < 10
    · rw [Lib.decDigits_one c]
      refine ⟨?_, by simp⟩
      apply evshift
      simp only [spec_l1Num.f]
      rw [w64 (x := (u : Int) + 1) (by omega) (by omega), dig_at c]
      exact evn (by omega) (evp (by omega) (evp (by omega) (evp (by omega) (evp (by omega) (evs _)))))
    · obtain ⟨h1, h2⟩ := ih (u / 10) (by omega) (by omega)
      have e : Lib.decDigits u = Lib.decDigits (u / 10) ++ [UInt8.ofNat (48 + u % 10)] := by
        rw [Lib.decDigits, dif_neg c]
      have hd : Int.tdiv (u : Int) 10 = ((u / 10 : Nat) : Int) := (Int.ofNat_tdiv u 10).symm
      have hm : Int.tmod (u : Int) 10 = ((u % 10 : Nat) : Int) := (Int.ofNat_tmod u 10).symm
      refine ⟨?_, by rw [e, List.length_append, List.length_singleton]; omega⟩
      have hs : (⟨(Lib.decDigits (u / 10)).toArray⟩ : ByteArray).size = (Lib.decDigits (u / 10)).length := by
        rw [← size_list]
      apply evshift
      simp only [spec_l1Num.f]
      rw [hd, hm, w64 (x := ((u / 10 : Nat) : Int)) (by omega) (by omega), w64 (x := ((u % 10 : Nat) : Int) + 1) (by omega) (by omega), dig_at (by omega)]
      refine evn (by omega) (evn (by omega) (evb h1 (evp (by omega) (evp (by omega) (evp (by omega) (evp ?_ ?_))))))
      · rw [hs]
        show _ + 1 ≤ _
        omega
      · refine eve (evs _) (bytes_same ?_)
        rw [ByteArray.data_append, Array.toList_append, e]
theorem ev_l1Num (n : Int) (h : -9999999 ≤ n) (h' : n ≤ 9999999) : Ev (fun k => spec_l1Num.f k n) (⟨(Lib.itoa n).toArray⟩ : ByteArray) := by
  by_cases c : n < 0
  · obtain ⟨h1, h2⟩ := l1Num_nat n.natAbs (by omega)
    have hs : (⟨(Lib.decDigits n.natAbs).toArray⟩ : ByteArray).size = (Lib.decDigits n.natAbs).length := by
      rw [← size_list]
    apply evshift
    simp only [spec_l1Num.f]
    rw [w64 (x := -n) (by omega) (by omega), show -n = (n.natAbs : Int) by omega]
    refine evp c (evb h1 (evp (by omega) (eve (evs _) (bytes_same ?_))))
    rw [ByteArray.data_append, Array.toList_append]
    unfold Lib.itoa
    rw [if_pos c]
    rfl
  · obtain ⟨m, rfl⟩ : ∃ m : Nat, n = m := ⟨n.toNat, by omega⟩
    have e : Lib.itoa (m : Int) = Lib.decDigits m := by
      unfold Lib.itoa
      rw [if_neg c, Int.toNat_natCast]
    rw [e]
    exact (l1Num_nat m (by omega)).1
theorem byte_digit {d : Nat} (h : d < 10) : (UInt8.ofNat (48 + d)).toNat = 48 + d := by
  rw [UInt8.toNat_ofNat']; omega
theorem digit_byte {d : Nat} (h : d < 10) : Lib.digitVal (UInt8.ofNat (48 + d)) = some d := by
  unfold Lib.digitVal; rw [byte_digit h, if_pos (by omega)]; congr 1; omega
theorem decFrom_snoc (b : UInt8) : ∀ (l : List UInt8) (acc : Nat), Lib.decFrom acc (l ++ [b]) = (Lib.decFrom acc l).bind fun n => (Lib.digitVal b).map fun d => n * 10 + d
  | [], acc => by simp only [List.nil_append, Lib.decFrom, Option.bind_some]; cases Lib.digitVal b <;> rfl
  | a :: l, acc => by
    simp only [List.cons_append, Lib.decFrom]
    cases Lib.digitVal a with
    | none => rfl
    | some d => exact decFrom_snoc b l _
theorem decFrom_digits (u : Nat) : Lib.decFrom 0 (Lib.decDigits u) = some u := by
  induction u using Nat.strongRecOn with
  | ind u ih =>
    rw [Lib.decDigits]
    split
    · rename_i h
      simp only [Lib.decFrom, digit_byte h]; congr 1; omega
    · rename_i h
      rw [decFrom_snoc, ih (u / 10) (by omega), Option.bind_some, digit_byte (by omega)]
      simp only [Option.map_some]; congr 1; omega
theorem decDigits_bytes (u : Nat) : ∀ b ∈ Lib.decDigits u, 48 ≤ b.toNat ∧ b.toNat ≤ 57 := by
  induction u using Nat.strongRecOn with
  | ind u ih =>
    rw [Lib.decDigits]
    split
    · rename_i h
      intro b hb; rw [List.mem_singleton] at hb; subst hb; rw [byte_digit h]; omega
    · rename_i h
      intro b hb; rw [List.mem_append, List.mem_singleton] at hb
      rcases hb with hb | hb
      · exact ih (u / 10) (by omega) b hb
      · subst hb; rw [byte_digit (by omega)]; omega
theorem decDigits_pos (u : Nat) : 1 ≤ (Lib.decDigits u).length := by
  rw [Lib.decDigits]; split <;> simp
theorem decDigits_len : ∀ (k u : Nat), u < 10 ^ (k + 1) → (Lib.decDigits u).length ≤ k + 1
  | 0, u, h => by rw [Lib.decDigits, dif_pos (by simpa using h)]; simp
  | k + 1, u, h => by
    rw [Lib.decDigits]
    split
    · simp
    · have := decDigits_len k (u / 10) (by rw [Nat.pow_succ] at h; omega)
      simp only [List.length_append, List.length_singleton]; omega
theorem decNat_digits (u : Nat) : Lib.decNat (Lib.decDigits u) = some u := by
  unfold Lib.decNat
  have := decDigits_pos u
  rw [if_neg (by intro h; rw [List.isEmpty_iff] at h; rw [h] at this; simp at this), decFrom_digits]
theorem atoi_itoa (n : Int) : Lib.atoi (Lib.itoa n) = some n := by
  unfold Lib.itoa
  split
  · simp only [Lib.atoi, decNat_digits]
    simp; omega
  · have hp := decDigits_pos n.toNat
    have hb := decDigits_bytes n.toNat
    have hd := decNat_digits n.toNat
    cases hl : Lib.decDigits n.toNat with
    | nil => rw [hl] at hp; simp at hp
    | cons b r =>
      rw [hl] at hb hd
      have h1 := hb b (by simp)
      have n1 : ¬ (b == 45) = true := by intro e; rw [beq_iff_eq] at e; subst e; simp at h1
      have n2 : ¬ (b == 43) = true := by intro e; rw [beq_iff_eq] at e; subst e; simp at h1
      simp only [Lib.atoi, if_neg n1, if_neg n2, hd, Option.map_some]
      congr 1; omega
theorem decFrom_bound : ∀ (l : List UInt8) (acc n : Nat), Lib.decFrom acc l = some n → n < (acc + 1) * 10 ^ l.length
  | [], acc, n, h => by simp only [Lib.decFrom, Option.some.injEq] at h; subst h; simp
  | b :: l, acc, n, h => by
    simp only [Lib.decFrom] at h
    cases hd : Lib.digitVal b with
    | none => rw [hd] at h; simp at h
    | some d =>
      rw [hd] at h
      have h1 := decFrom_bound l _ n h
      have h2 : d < 10 := by
        unfold Lib.digitVal at hd; split at hd
        · injection hd with hd; omega
        · simp at hd
      have h3 : (acc * 10 + d + 1) * 10 ^ l.length ≤ ((acc + 1) * 10) * 10 ^ l.length := Nat.mul_le_mul_right _ (by omega)
      rw [List.length_cons, Nat.pow_succ]
      rw [Nat.mul_assoc, Nat.mul_comm 10] at h3
      omega
/-- The number of a text, as the reference reads it. -/
def cutSign (l : List UInt8) : List UInt8 := if 1 < l.length ∧ l.head? = some 45 then l.tail else l
def readL (l : List UInt8) : Option Int :=
  if 1 ≤ (cutSign l).length ∧ (cutSign l).length ≤ 6 then (Lib.decFrom 0 (cutSign l)).bind fun m =>
    if Lib.itoa (if (cutSign l).length < l.length then -(m : Int) else (m : Int)) = l then some (if (cutSign l).length < l.length then -(m : Int) else (m : Int)) else none
  else none
theorem readL_some {l : List UInt8} {n : Int} (h : readL l = some n) : Lib.itoa n = l ∧ -999999 ≤ n ∧ n ≤ 999999 := by
  unfold readL at h
  split at h
  · rename_i hl
    cases hd : Lib.decFrom 0 (cutSign l) with
    | none => rw [hd] at h; simp at h
    | some m =>
      rw [hd, Option.bind_some] at h
      have hb := decFrom_bound _ _ _ hd
      have hp : 10 ^ (cutSign l).length ≤ 10 ^ 6 := Nat.pow_le_pow_right (by omega) hl.2
      simp only [Nat.zero_add, Nat.one_mul] at hb
      have hm : m < 1000000 := Nat.lt_of_lt_of_le hb (by simpa using hp)
      generalize hx : (if (cutSign l).length < l.length then -(m : Int) else (m : Int)) = x at h
      by_cases he : Lib.itoa x = l
      · rw [if_pos he] at h
        injection h with h
        subst h
        refine ⟨he, ?_⟩
        rw [← hx]
        split <;> omega
      · rw [if_neg he] at h; simp at h
  · simp at h
theorem readL_itoa {n : Int} (h1 : -999999 ≤ n) (h2 : n ≤ 999999) : readL (Lib.itoa n) = some n := by
  by_cases hn : n < 0
  · have e : Lib.itoa n = 45 :: Lib.decDigits n.natAbs := by unfold Lib.itoa; rw [if_pos hn]
    have hp := decDigits_pos n.natAbs
    have hl := decDigits_len 5 n.natAbs (by omega)
    have ec : cutSign (Lib.itoa n) = Lib.decDigits n.natAbs := by
      rw [e]; unfold cutSign; rw [if_pos ⟨by simp; omega, rfl⟩]; rfl
    unfold readL
    rw [ec, if_pos ⟨hp, hl⟩, decFrom_digits, Option.bind_some, if_pos (by rw [e]; simp : (Lib.decDigits n.natAbs).length < (Lib.itoa n).length)]
    have : -((n.natAbs : Nat) : Int) = n := by omega
    rw [this, if_pos rfl]
  · have e : Lib.itoa n = Lib.decDigits n.toNat := by unfold Lib.itoa; rw [if_neg hn]
    have hp := decDigits_pos n.toNat
    have hl := decDigits_len 5 n.toNat (by omega)
    have hb := decDigits_bytes n.toNat
    have ec : cutSign (Lib.itoa n) = Lib.decDigits n.toNat := by
      rw [e]; unfold cutSign; rw [if_neg]
      rintro ⟨_, h4⟩
      cases hd : Lib.decDigits n.toNat with
      | nil => rw [hd] at h4; simp at h4
      | cons b r => rw [hd] at h4 hb; simp at h4; subst h4; have := hb 45 (by simp); simp at this
    unfold readL
    rw [ec, if_pos ⟨hp, hl⟩, decFrom_digits, Option.bind_some, if_neg (by rw [e]; simp : ¬ (Lib.decDigits n.toNat).length < (Lib.itoa n).length)]
    have : ((n.toNat : Nat) : Int) = n := by omega
    rw [this, if_pos rfl]
theorem read_both (l : List UInt8) : readL l = (Lib.atoi l).bind fun n => if (-999999 ≤ n ∧ n ≤ 999999) ∧ Lib.itoa n = l then some n else none := by
  cases h : readL l with
  | some n =>
    obtain ⟨h1, h2⟩ := readL_some h
    rw [← h1, atoi_itoa, Option.bind_some, if_pos ⟨h2, rfl⟩]
  | none =>
    cases ha : Lib.atoi l with
    | none => rfl
    | some n =>
      rw [Option.bind_some, if_neg]
      rintro ⟨⟨h1, h2⟩, h3⟩
      have := readL_itoa h1 h2
      rw [h3, h] at this
      simp at this
theorem tmod_byte {b : Nat} (h1 : 48 ≤ b) (h2 : b < 256) : (((b : Int) - 48) % 256) = ((b - 48 : Nat) : Int) := by omega
/-- What the reference's loop answers behind some bytes whose number is told. -/
def readEnd (s : ByteArray) (neg : Bool) : Option Nat → Int × Bool
  | none => (0, false)
  | some m => if Lib.itoa (if neg = true then -(m : Int) else (m : Int)) = s.data.toList then ((if neg = true then -(m : Int) else (m : Int)), true) else (0, false)
theorem text_same (l : List UInt8) (s : ByteArray) : (⟨l.toArray⟩ : ByteArray).toList = s.toList ↔ l = s.data.toList := by
  rw [ByteArray.toList_eq, ByteArray.toList_eq]
theorem read_loop (s t : ByteArray) (ht : t.size ≤ 6) : ∀ d j (acc : Nat), j + d = t.size → acc < 10 ^ j →
    Ev (fun k => spec_l1Read.l0 k s t (acc : Int) (j : Int)) (readEnd s (decide ((t.size : Int) < (s.size : Int))) (Lib.decFrom acc (t.data.toList.drop j)))
  | 0, j, acc, h, ha => by
    have hp : 10 ^ j ≤ 10 ^ 6 := Nat.pow_le_pow_right (by omega) (by omega)
    have hacc : acc < 1000000 := Nat.lt_of_lt_of_le ha (by simpa using hp)
    rw [List.drop_eq_nil_of_le (by rw [size_list]; omega)]
    apply evshift
    simp only [spec_l1Read.l0, Lib.decFrom, readEnd]
    refine evn (by omega) ?_
    by_cases c : (t.size : Int) < (s.size : Int)
    · rw [w64 (x := -(acc : Int)) (by omega) (by omega), decide_eq_true c]
      refine evp c (evb (ev_l1Num _ (by omega) (by omega)) ?_)
      simp only [if_true]
      by_cases e : Lib.itoa (-(acc : Int)) = s.data.toList
      · rw [if_pos e]; exact evp ((text_same _ _).2 e) (evs _)
      · rw [if_neg e]; exact evn (fun h => e ((text_same _ _).1 h)) (evs _)
    · rw [decide_eq_false c]
      refine evn c (evb (ev_l1Num _ (by omega) (by omega)) ?_)
      simp only [Bool.false_eq_true, if_false]
      by_cases e : Lib.itoa (acc : Int) = s.data.toList
      · rw [if_pos e]; exact evp ((text_same _ _).2 e) (evs _)
      · rw [if_neg e]; exact evn (fun h => e ((text_same _ _).1 h)) (evs _)
  | d + 1, j, acc, h, ha => by
    have hp : 10 ^ j ≤ 10 ^ 5 := Nat.pow_le_pow_right (by omega) (by omega)
    have hacc : acc < 100000 := Nat.lt_of_lt_of_le ha (by simpa using hp)
    have hj : j < t.data.toList.length := by rw [size_list]; omega
    obtain ⟨b, hb⟩ : ∃ b, t.data.toList[j] = b := ⟨_, rfl⟩
    have hbt : bt t (j : Int) = (b.toNat : Int) := by
      rw [bt_list, List.getD, List.getElem?_eq_getElem hj, hb]; rfl
    have hb256 : b.toNat < 256 := b.toNat_lt
    rw [List.drop_eq_getElem_cons hj, hb]
    apply evshift
    simp only [spec_l1Read.l0, Lib.decFrom]
    rw [hbt]
    refine evp (by omega) (evp (by omega) ?_)
    by_cases c1 : b.toNat < 48
    · have : Lib.digitVal b = none := by unfold Lib.digitVal; rw [if_neg (by omega)]
      rw [this]
      exact evp (by omega) (evs _)
    · by_cases c2 : 57 < b.toNat
      · have : Lib.digitVal b = none := by unfold Lib.digitVal; rw [if_neg (by omega)]
        rw [this]
        exact evn (by omega) (evp (by omega) (evs _))
      · have : Lib.digitVal b = some (b.toNat - 48) := by unfold Lib.digitVal; rw [if_pos (by omega)]
        rw [this]
        refine evn (by omega) (evn (by omega) ?_)
        rw [tmod_byte (by omega) hb256, w64 (x := 10 * (acc : Int)) (by omega) (by omega), w64 (x := 10 * (acc : Int) + ((b.toNat - 48 : Nat) : Int)) (by omega) (by omega), wnext j (by omega),
          show 10 * (acc : Int) + ((b.toNat - 48 : Nat) : Int) = ((acc * 10 + (b.toNat - 48) : Nat) : Int) by omega]
        exact read_loop s t ht d (j + 1) _ (by omega) (by rw [Nat.pow_succ]; omega)
theorem readL_end (s : ByteArray) : (match readL s.data.toList with | some n => (n, true) | none => (0, false)) = if 1 ≤ (cutSign s.data.toList).length ∧ (cutSign s.data.toList).length ≤ 6 then readEnd s (decide ((cutSign s.data.toList).length < s.data.toList.length)) (Lib.decFrom 0 (cutSign s.data.toList)) else ((0 : Int), false) := by
  unfold readL
  by_cases c : 1 ≤ (cutSign s.data.toList).length ∧ (cutSign s.data.toList).length ≤ 6
  · rw [if_pos c, if_pos c]
    cases hd : Lib.decFrom 0 (cutSign s.data.toList) with
    | none => rfl
    | some m =>
      simp only [Option.bind_some, readEnd, decide_eq_true_eq]
      generalize (if (cutSign s.data.toList).length < s.data.toList.length then -(m : Int) else (m : Int)) = x
      by_cases e : Lib.itoa x = s.data.toList
      · rw [if_pos e, if_pos e]
      · rw [if_neg e, if_neg e]
  · rw [if_neg c, if_neg c]
theorem read_body (s t : ByteArray) : Ev (fun k => spec_l1Read.j1 k s t) (if 1 ≤ t.data.toList.length ∧ t.data.toList.length ≤ 6 then readEnd s (decide (t.data.toList.length < s.data.toList.length)) (Lib.decFrom 0 t.data.toList) else ((0 : Int), false)) := by
  apply evshift
  simp only [spec_l1Read.j1]
  refine evc (in_spec _ _ _) ?_
  rw [size_list, size_list]
  by_cases c : 1 ≤ t.size ∧ t.size ≤ 6
  · rw [if_pos c]
    refine evp (by simp; omega) ?_
    have h := read_loop s t c.2 t.size 0 0 (by omega) (by simp)
    rw [List.drop_zero] at h
    have e : decide (t.size < s.size) = decide ((t.size : Int) < (s.size : Int)) := decide_eq_decide.2 (by omega)
    rw [e]
    exact h
  · rw [if_neg c]
    exact evn (by simp; omega) (evs _)
theorem ev_l1Read (s : ByteArray) (hs : s.size ≤ 1048576) : Ev (fun k => spec_l1Read.f k s) (match readL s.data.toList with | some n => (n, true) | none => (0, false)) := by
  rw [readL_end]
  have hlen := size_list s
  unfold spec_l1Read.f
  by_cases c : 1 < s.size
  · refine evp (by omega) (evp (by omega) ?_)
    have hj : 0 < s.data.toList.length := by omega
    have hb0 : bt s 0 = ((s.data.toList[0]).toNat : Int) := by
      have := bt_list s 0
      rw [List.getD, List.getElem?_eq_getElem hj] at this
      exact this
    have hh : s.data.toList.head? = some (s.data.toList[0]) := by rw [List.head?_eq_getElem?, List.getElem?_eq_getElem hj]
    apply evshift
    simp only [spec_l1Read.j0]
    by_cases c2 : s.data.toList[0] = 45
    · have e : cutSign s.data.toList = s.data.toList.tail := by unfold cutSign; rw [if_pos ⟨by omega, by rw [hh, c2]⟩]
      have ex : (s.extract 1 s.size).data.toList = s.data.toList.tail := by
        rw [ByteArray.data_extract, Array.toList_extract, List.extract_eq_take_drop, List.drop_one, List.take_of_length_le]
        rw [List.length_tail]; omega
      rw [hb0, c2]
      refine evp (by decide) (evp (by omega) ?_)
      have h := read_body s (s.extract 1 s.size)
      rw [ex] at h
      rw [e]
      exact h
    · have e : cutSign s.data.toList = s.data.toList := by unfold cutSign; rw [if_neg]; rintro ⟨_, h⟩; rw [hh] at h; exact c2 (Option.some.inj h)
      rw [hb0, e]
      refine evn ?_ (read_body s s)
      simp only [beq_iff_eq]
      intro h
      exact c2 (UInt8.toNat_inj.1 (by show (s.data.toList[0]).toNat = 45; omega))
  · have e : cutSign s.data.toList = s.data.toList := by unfold cutSign; rw [if_neg (by omega)]
    rw [e]
    refine evn (by omega) ?_
    apply evshift
    simp only [spec_l1Read.j0]
    exact evn (by simp) (read_body s s)
theorem implParse (s : ByteArray) : impl_ParseInt.f s = some (match readL s.data.toList with | some n => (n, true) | none => (0, false)) := by
  rw [read_both]
  unfold impl_ParseInt.f
  have hsame : ∀ n : Int, (⟨(Lib.itoa n).toArray⟩ : ByteArray) = s ↔ Lib.itoa n = s.data.toList := fun n => ⟨fun h => by rw [← h], fun h => bytes_same (by rw [h])⟩
  by_cases c : 7 < s.size
  · rw [if_pos c]
    cases ha : Lib.atoi s.data.toList with
    | none => rfl
    | some n =>
      rw [Option.bind_some, if_neg]
      rintro ⟨⟨h1, h2⟩, h3⟩
      have h4 : (Lib.itoa n).length ≤ 7 := by
        unfold Lib.itoa
        split
        · have := decDigits_len 5 n.natAbs (by omega); simp; omega
        · have := decDigits_len 5 n.toNat (by omega); omega
      rw [h3, size_list] at h4
      omega
  · rw [if_neg c]
    cases ha : Lib.atoi s.data.toList with
    | none => rfl
    | some n =>
      simp only [Option.bind_some]
      by_cases c2 : -999999 ≤ n ∧ n ≤ 999999
      · rw [if_pos c2]
        by_cases c3 : Lib.itoa n = s.data.toList
        · rw [if_pos ((hsame n).2 c3), if_pos ⟨c2, c3⟩]
        · rw [if_neg (fun h => c3 ((hsame n).1 h)), if_neg (fun h => c3 h.2)]
      · rw [if_neg c2, if_neg (fun h => c2 h.1)]
theorem FnExactParseInt : laws_FnExactParseInt.Pure := by
  intro s _
  refine Ev.rounds (g := fun k => laws_FnExactParseInt.f k s) ?_
  unfold laws_FnExactParseInt.f
  by_cases hx : (s.size : Int) > 1048576
  · exact evp hx (evs _)
  refine evn hx ?_
  unfold spec_ParseInt.f
  exact evb (evb (ev_l1Read s (by omega)) (evs _)) (evc (implParse s) (evp rfl (evn (by simp) (evs _))))

end Go.Proofs.YtajmlbpchfakcaaDoor.Pure
