/- The law laws.FnExactJoinStrings, told as plain Lean functions of numbers, lists and strings, answers true for every input, if enough rounds are given: the program's JoinStrings answers what the reference's answers. Conditions: none but the kinds' own (each number one of its kind, each length one that the model reads). -/
import Derived.Test.YtajmlbpchfakcaaPFnExactJoinStringsx2
import Derived.Test.YtajmlbpchfakcaaBase
import Derived.Lib.IndexMore
import Derived.Lib.Join
namespace Go.Proofs.Ytajmlbpchfakcaa.Pure
open Go.RowKit Go.Proofs.Ytajmlbpchfakcaa.PFnExactJoinStrings Go.Proofs.YtajmlbpchfakcaaW.PrintWords Go.Proofs.YtajmlbpchfakcaaW.PrintLast Go.Proofs.YtajmlbpchfakcaaW.PrintMore Go.Proofs.Ytajmlbpchfakcaa.Base

theorem bt_list (x : ByteArray) (j : Nat) : bt x (j : Int) = ((x.data.toList.getD j 0).toNat : Int) := by
  unfold bt
  simp only [Int.toNat_natCast]
  by_cases h : j < x.size
  · have h' : j < x.data.toList.length := by simpa using h
    rw [dif_pos h, List.getD, List.getElem?_eq_getElem h']
    rfl
  · have h' : x.data.toList.length ≤ j := by
      have : x.data.toList.length = x.size := by simp
      omega
    rw [dif_neg h, List.getD, List.getElem?_eq_none h']
    rfl
theorem size_list (x : ByteArray) : x.data.toList.length = x.size := by simp
theorem bytes_same {a b : ByteArray} (h : a.data.toList = b.data.toList) : a = b := by
  cases a with
  | mk a => cases b with
    | mk b => simpa using h
/-- Is the byte in the text? -/
def hasB (u : UInt8) (x : ByteArray) : Bool := x.data.toList.any fun v => v == u
theorem any_nat (u : UInt8) (l : List UInt8) : (l.any fun v => decide ((v.toNat : Int) = (u.toNat : Int))) = l.any fun v => v == u := by
  induction l with
  | nil => rfl
  | cons v l ih =>
    rw [List.any_cons, List.any_cons, ih]
    congr 1
    rw [Bool.eq_iff_iff, decide_eq_true_eq, beq_iff_eq]
    constructor
    · intro h
      exact UInt8.toNat_inj.1 (by omega)
    · rintro rfl; rfl
theorem stands_loop (x : ByteArray) (u : UInt8) (hx : x.size ≤ 1048576) : ∀ d j, j + d = x.size → Ev (fun k => spec_l1Stands.l0 k x (u.toNat : Int) (j : Int)) ((x.data.toList.drop j).any fun v => decide ((v.toNat : Int) = (u.toNat : Int)))
  | 0, j, h => by
    rw [List.drop_eq_nil_of_le (by rw [size_list]; omega)]
    apply evshift
    simp only [spec_l1Stands.l0]
    exact evn (by omega) (evs _)
  | d + 1, j, h => by
    have ih := stands_loop x u hx d (j + 1) (by omega)
    have hj : j < x.data.toList.length := by rw [size_list]; omega
    rw [List.drop_eq_getElem_cons hj, List.any_cons]
    have e : bt x (j : Int) = ((x.data.toList[j]).toNat : Int) := by
      rw [bt_list, List.getD, List.getElem?_eq_getElem hj]
      rfl
    apply evshift
    simp only [spec_l1Stands.l0]
    rw [e, wnext j (by omega)]
    refine evp (by omega) (evp (by omega) ?_)
    by_cases c : ((x.data.toList[j]).toNat : Int) = (u.toNat : Int)
    · exact evp c (eve (evs _) (by rw [decide_eq_true c]; rfl))
    · exact evn c (eve ih (by rw [decide_eq_false c]; rfl))
theorem ev_stands (x : ByteArray) (u : UInt8) (hx : x.size ≤ 1048576) : Ev (fun k => spec_l1Stands.f k x (u.toNat : Int)) (hasB u x) := by
  unfold spec_l1Stands.f
  have h := stands_loop x u hx x.size 0 (by omega)
  rw [List.drop_zero, any_nat] at h
  exact h
theorem index_any (u : UInt8) : ∀ l : List UInt8, decide (0 ≤ Lib.index l [u]) = l.any fun v => v == u
  | [] => by simp [Lib.index]
  | v :: l => by
    have ih := index_any u l
    have hg := Lib.index_ge l [u]
    have e0 : Lib.index (v :: l) [u] = if List.isPrefixOf [u] (v :: l) then 0 else if Lib.index l [u] == -1 then -1 else Lib.index l [u] + 1 := rfl
    rw [List.any_cons, ← ih, e0]
    by_cases c : v = u
    · subst c
      simp [List.isPrefixOf]
    · have c' : ¬ u = v := fun h => c h.symm
      have e : List.isPrefixOf [u] (v :: l) = false := by simp [List.isPrefixOf, c']
      rw [e]
      have e2 : (v == u) = false := by simpa using c
      rw [e2, Bool.false_or]
      by_cases c3 : Lib.index l [u] = -1
      · rw [c3]; simp
      · have : (Lib.index l [u] == -1) = false := by simpa using c3
        rw [this]
        simp only [Bool.false_eq_true, if_false]
        rw [Bool.eq_iff_iff, decide_eq_true_eq, decide_eq_true_eq]
        omega
theorem contains_has (x sep : ByteArray) (u : UInt8) (hs : sep.data.toList = [u]) (hx : x.size ≤ 1048576) : strings_Contains.f x sep = some (hasB u x) := by
  unfold strings_Contains.f
  rw [if_pos (by omega), hs]
  unfold Lib.contains hasB
  rw [index_any]
/-- The j-th text of a list. -/
def tx (l : List ByteArray) (j : Nat) : ByteArray := rdOf ByteArray.empty l (j : Int)
theorem tx_lt {l : List ByteArray} {j : Nat} (h : j < l.length) : tx l j = l[j] := by simp [tx, rdOf, List.getD, h]
theorem tx_mem {l : List ByteArray} {j : Nat} (h : j < l.length) : tx l j ∈ l := by rw [tx_lt h]; exact List.getElem_mem h
/-- How many bytes the first j texts have. -/
def sumS (l : List ByteArray) : Nat → Nat
  | 0 => 0
  | j + 1 => sumS l j + (tx l j).size
theorem sumS_mono (l : List ByteArray) (j : Nat) : ∀ k, sumS l j ≤ sumS l (j + k)
  | 0 => Nat.le_refl _
  | k + 1 => Nat.le_trans (sumS_mono l j k) (by rw [← Nat.add_assoc]; simp [sumS])
def JT (l : List ByteArray) (u : UInt8) (j : Nat) : List UInt8 := Lib.join ((l.take j).map (·.data.toList)) [u]
theorem join_snoc (xs : List (List UInt8)) (y sep : List UInt8) (h : xs ≠ []) : Lib.join (xs ++ [y]) sep = Lib.join xs sep ++ sep ++ y := by
  cases xs with
  | nil => exact absurd rfl h
  | cons x r =>
    rw [List.cons_append, Lib.join_cons, Lib.join_cons]
    simp [Lib.joinTail, List.append_assoc]
theorem JT_zero (l : List ByteArray) (u : UInt8) : JT l u 0 = [] := by simp [JT, Lib.join_nil]
theorem JT_succ {l : List ByteArray} {u : UInt8} {j : Nat} (h : j < l.length) : JT l u (j + 1) = if j = 0 then (tx l j).data.toList else JT l u j ++ [u] ++ (tx l j).data.toList := by
  unfold JT
  rw [List.take_succ_eq_append_getElem h, List.map_append, List.map_cons, List.map_nil, tx_lt h]
  by_cases h0 : j = 0
  · subst h0
    rw [if_pos rfl, List.take_zero, List.map_nil, List.nil_append, Lib.join_one]
  · rw [if_neg h0, join_snoc]
    intro e
    have := congrArg List.length e
    rw [List.length_map, List.length_take, List.length_nil] at this
    omega
theorem JT_len {l : List ByteArray} {u : UInt8} : ∀ j, j ≤ l.length → (JT l u j).length = sumS l j + (j - 1)
  | 0, _ => by rw [JT_zero]; rfl
  | j + 1, h => by
    have ih := JT_len (l := l) (u := u) j (by omega)
    rw [JT_succ (by omega), sumS]
    by_cases h0 : j = 0
    · subst h0
      rw [if_pos rfl, size_list]
      simp [sumS]
    · rw [if_neg h0, List.length_append, List.length_append, ih, size_list, List.length_singleton]
      omega
def goodJ (l : List ByteArray) (u : UInt8) : Prop := (∀ i, i < l.length → hasB u (tx l i) = false) ∧ sumS l l.length + (l.length - 1) ≤ 4000
open Classical in
noncomputable def joinR (l : List ByteArray) (u : UInt8) : ByteArray × Bool := if goodJ l u then ((⟨(JT l u l.length).toArray⟩ : ByteArray), true) else ((⟨#[]⟩ : ByteArray), false)
theorem joinR_no {l : List ByteArray} {u : UInt8} (h : ¬ goodJ l u) : joinR l u = ((⟨#[]⟩ : ByteArray), false) := by unfold joinR; rw [if_neg h]
theorem joinR_yes {l : List ByteArray} {u : UInt8} (h : goodJ l u) : joinR l u = ((⟨(JT l u l.length).toArray⟩ : ByteArray), true) := by unfold joinR; rw [if_pos h]
theorem bad_size {l : List ByteArray} {u : UInt8} {j : Nat} (hj : j < l.length) (h : 4000 < sumS l (j + 1) + j) : ¬ goodJ l u := fun hg => by
  have := hg.2
  have hm := sumS_mono l (j + 1) (l.length - (j + 1))
  rw [show j + 1 + (l.length - (j + 1)) = l.length by omega] at hm
  omega
theorem specJoin_loop (l : List ByteArray) (sep : ByteArray) (u : UInt8) (hs : sep.data.toList = [u]) (hl : l.length ≤ 1048576) (hx : ∀ x ∈ l, x.size ≤ 1048576) : ∀ d j (acc : ByteArray), j + d = l.length → acc.data.toList = JT l u j → acc.size ≤ 4000 → (∀ i, i < j → hasB u (tx l i) = false) → Ev (fun k => spec_JoinStrings.l0 k l sep acc (j : Int)) (joinR l u)
  | 0, j, acc, h, ha, hz, hb => by
    obtain rfl : j = l.length := by omega
    have hlen := JT_len (l := l) (u := u) l.length (Nat.le_refl _)
    have e := size_list acc
    rw [ha] at e
    apply evshift
    simp only [spec_JoinStrings.l0]
    refine evn (by omega) (eve (evs _) ?_)
    rw [joinR_yes ⟨hb, by omega⟩]
    congr 1
    exact bytes_same (by rw [ha])
  | d + 1, j, acc, h, ha, hz, hb => by
    have hj : j < l.length := by omega
    have hsz := hx _ (tx_mem hj)
    have h1 : sep.size = 1 := by rw [← size_list, hs]; rfl
    have hu : bt sep 0 = (u.toNat : Int) := by
      have := bt_list sep 0
      rw [hs] at this
      exact this
    have hlen := JT_len (l := l) (u := u) (j + 1) (by omega)
    have hsucc := JT_succ (u := u) hj
    apply evshift
    simp only [spec_JoinStrings.l0]
    rw [hu, wnext j (by omega)]
    refine evp (by omega) (evp (by omega) (evp (by omega) (evb (ev_stands (tx l j) u hsz) ?_)))
    cases c : hasB u (tx l j) with
    | true =>
      refine evp rfl (eve (evs _) (joinR_no fun hg => ?_).symm)
      rw [hg.1 j hj] at c
      simp at c
    | false =>
      have hb' : ∀ i, i < j + 1 → hasB u (tx l i) = false := fun i hi => by
        by_cases e : i = j
        · subst e; exact c
        · exact hb i (by omega)
      refine evn (by simp) ?_
      by_cases h0 : j = 0
      · subst h0
        rw [if_pos rfl] at hsucc
        have e1 : (acc ++ rdOf ByteArray.empty l ((0 : Nat) : Int)).data.toList = JT l u 1 := by
          rw [ByteArray.data_append, Array.toList_append, ha, JT_zero, List.nil_append, hsucc]
          rfl
        have e2 := size_list (acc ++ rdOf ByteArray.empty l ((0 : Nat) : Int))
        rw [e1, hlen] at e2
        have e3 : (rdOf ByteArray.empty l ((0 : Nat) : Int)).size ≤ 1048576 := hsz
        refine evn (by omega) (evp (by omega) ?_)
        by_cases c2 : ((acc ++ rdOf ByteArray.empty l ((0 : Nat) : Int)).size : Int) > 4000
        · exact evp c2 (eve (evs _) (joinR_no (bad_size hj (by omega))).symm)
        · exact evn c2 (specJoin_loop l sep u hs hl hx d (0 + 1) _ (by omega) e1 (by omega) hb')
      · rw [if_neg h0] at hsucc
        have e1 : ((acc ++ sep) ++ rdOf ByteArray.empty l (j : Int)).data.toList = JT l u (j + 1) := by
          rw [ByteArray.data_append, ByteArray.data_append, Array.toList_append, Array.toList_append, ha, hs, hsucc]
          rfl
        have e2 := size_list ((acc ++ sep) ++ rdOf ByteArray.empty l (j : Int))
        rw [e1, hlen] at e2
        have e3 : (rdOf ByteArray.empty l (j : Int)).size ≤ 1048576 := hsz
        refine evp (by omega) (evp (by omega) (evp (by rw [ByteArray.size_append]; omega) ?_))
        by_cases c2 : (((acc ++ sep) ++ rdOf ByteArray.empty l (j : Int)).size : Int) > 4000
        · exact evp c2 (eve (evs _) (joinR_no (bad_size hj (by omega))).symm)
        · exact evn c2 (specJoin_loop l sep u hs hl hx d (j + 1) _ (by omega) e1 (by omega) hb')
theorem implJoin_loop (l : List ByteArray) (sep : ByteArray) (u : UInt8) (hs : sep.data.toList = [u]) (hl : l.length ≤ 1048576) (h1 : 0 < l.length) (hx : ∀ x ∈ l, x.size ≤ 1048576) : ∀ d j (t : Nat), j + d = l.length → t = l.length - 1 + sumS l j → (j = 0 ∨ t ≤ 4000) → (∀ i, i < j → hasB u (tx l i) = false) → Ev (fun k => impl_JoinStrings.l0 k l sep (t : Int) l (l.length : Int) (j : Int)) (joinR l u)
  | 0, j, t, h, ht, hz, hb => by
    obtain rfl : j = l.length := by omega
    have hg : goodJ l u := ⟨hb, by omega⟩
    have hlen := JT_len (l := l) (u := u) l.length (Nat.le_refl _)
    have hjoin : strings_Join.f l sep = some (⟨(JT l u l.length).toArray⟩ : ByteArray) := by
      unfold strings_Join.f JT at *
      rw [List.take_length] at *
      rw [hs, if_pos ⟨h1, by omega, by have := hg.2; omega⟩]
    apply evshift
    simp only [impl_JoinStrings.l0]
    exact evn (by omega) (evc hjoin (eve (evs _) (joinR_yes hg).symm))
  | d + 1, j, t, h, ht, hz, hb => by
    have hj : j < l.length := by omega
    have hsz := hx _ (tx_mem hj)
    have e3 : (rdOf ByteArray.empty l (j : Int)).size = (tx l j).size := rfl
    have hss : sumS l (j + 1) = sumS l j + (tx l j).size := rfl
    have hbd : t ≤ 1048576 + 4000 := by
      rcases hz with h0 | h0
      · subst h0; simp [sumS] at ht; omega
      · omega
    have ew : wrap64 ((t : Int) + ((rdOf ByteArray.empty l (j : Int)).size : Int)) = ((t + (tx l j).size : Nat) : Int) := by
      rw [w64 (by omega) (by omega)]
      omega
    apply evshift
    simp only [impl_JoinStrings.l0]
    rw [ew, wnext j (by omega)]
    refine evp (by omega) (evp (by omega) (evp (by omega) ?_))
    by_cases c2 : ((t + (tx l j).size : Nat) : Int) > 4000
    · refine evp c2 (eve (evs _) (joinR_no fun hg => ?_).symm)
      have := hg.2
      have hm := sumS_mono l (j + 1) (l.length - (j + 1))
      rw [show j + 1 + (l.length - (j + 1)) = l.length by omega] at hm
      omega
    · refine evn c2 (evc (contains_has (tx l j) sep u hs hsz) ?_)
      cases c : hasB u (tx l j) with
      | true =>
        refine evp rfl (eve (evs _) (joinR_no fun hg => ?_).symm)
        rw [hg.1 j hj] at c
        simp at c
      | false =>
        refine evn (by simp) (implJoin_loop l sep u hs hl h1 hx d (j + 1) _ (by omega) (by omega) (.inr (by omega)) fun i hi => ?_)
        by_cases e : i = j
        · subst e; exact c
        · exact hb i (by omega)
theorem joinNo (l : List ByteArray) (sep : ByteArray) : Ev (fun k => spec_JoinStrings.j0 k l sep true) ((⟨#[]⟩ : ByteArray), false) ∧ Ev (fun k => impl_JoinStrings.j0 k l sep true) ((⟨#[]⟩ : ByteArray), false) := by
  constructor
  · apply evshift; simp only [spec_JoinStrings.j0]; exact evp (by simp) (evs _)
  · apply evshift; simp only [impl_JoinStrings.j0]; exact evp (by simp) (evs _)
theorem bothJoinStrings (l : List ByteArray) (sep : ByteArray) (hl : l.length ≤ 1048576) (hx : ∀ x ∈ l, x.size ≤ 1048576) : ∃ r ok, Ev (fun k => spec_JoinStrings.f k l sep) (r, ok) ∧ Ev (fun k => impl_JoinStrings.f k l sep) (r, ok) := by
  have no := joinNo l sep
  unfold spec_JoinStrings.f impl_JoinStrings.f
  by_cases h1 : sep.size = 1
  · by_cases h0 : l.length = 0
    · have e : ((l.length : Int) == 0) = true := by rw [beq_iff_eq]; omega
      refine ⟨_, _, evp (by omega) (by rw [e]; exact no.1), evp (by omega) no.2⟩
    · have e : ((l.length : Int) == 0) = false := by rw [beq_eq_false_iff_ne]; omega
      have e2 : ((sep.size : Int) != 1) = false := by rw [bne_eq_false_iff_eq]; omega
      obtain ⟨u, hs⟩ : ∃ u, sep.data.toList = [u] := by
        have := size_list sep
        rw [h1] at this
        exact List.length_eq_one_iff.1 this
      refine ⟨(joinR l u).1, (joinR l u).2, evp (by omega) ?_, evn (by omega) ?_⟩
      · rw [e]
        apply evshift
        simp only [spec_JoinStrings.j0]
        exact evn (by simp) (specJoin_loop l sep u hs hl hx l.length 0 _ (by omega) (by rw [JT_zero]) (by decide) (fun i hi => by omega))
      · rw [e2]
        apply evshift
        simp only [impl_JoinStrings.j0]
        refine evn (by simp) ?_
        have ew : wrap64 ((l.length : Int) - 1) = ((l.length - 1 : Nat) : Int) := by rw [w64 (by omega) (by omega)]; omega
        rw [ew]
        exact implJoin_loop l sep u hs hl (by omega) hx l.length 0 (l.length - 1) (by omega) (by simp [sumS]) (.inl rfl) (fun i hi => by omega)
  · have e2 : ((sep.size : Int) != 1) = true := by rw [bne_iff_ne]; omega
    by_cases h0 : l.length = 0
    · exact ⟨_, _, evn (by omega) no.1, evp (by omega) no.2⟩
    · exact ⟨_, _, evn (by omega) no.1, evn (by omega) (by rw [e2]; exact no.2)⟩
theorem szS_loop (l : List ByteArray) (hl : l.length ≤ 1048576) (hm : ∀ x ∈ l, x.size ≤ maxLen) : ∀ d j (a : Int), j + d = l.length → 0 ≤ a → a ≤ 1048576 → ∃ t, Ev (fun k => laws_szStringS.l0 k l a (j : Int)) t ∧ (t < 0 ∨ ∀ i, j ≤ i → i < l.length → (tx l i).size ≤ 1048576)
  | 0, j, a, h, h0, h1 => by
    refine ⟨a, ?_, .inr fun i h2 h3 => by omega⟩
    apply evshift
    simp only [laws_szStringS.l0]
    exact evn (by omega) (evs _)
  | d + 1, j, a, h, h0, h1 => by
    have hj : j < l.length := by omega
    have hz := hm _ (tx_mem hj)
    unfold maxLen at hz
    have ew : wrap64 (a - ((rdOf ByteArray.empty l (j : Int)).size : Int)) = a - ((tx l j).size : Int) := by
      show wrap64 (a - ((tx l j).size : Int)) = _
      exact w64 (by omega) (by omega)
    by_cases c : a - ((tx l j).size : Int) < 0
    · refine ⟨-1, ?_, .inl (by omega)⟩
      apply evshift
      simp only [laws_szStringS.l0]
      rw [ew]
      exact evp (by omega) (evp (by omega) (evp c (evs _)))
    · obtain ⟨t, h2, h3⟩ := szS_loop l hl hm d (j + 1) (a - ((tx l j).size : Int)) (by omega) (by omega) (by omega)
      refine ⟨t, ?_, ?_⟩
      · apply evshift
        simp only [laws_szStringS.l0]
        rw [ew, wnext j (by omega)]
        exact evp (by omega) (evp (by omega) (evn c h2))
      · rcases h3 with h3 | h3
        · exact .inl h3
        · refine .inr fun i h4 h5 => ?_
          by_cases e : i = j
          · subst e; omega
          · exact h3 i (by omega) h5
theorem ev_szS (l : List ByteArray) (hl : l.length ≤ maxLen) (hm : ∀ x ∈ l, x.size ≤ maxLen) : ∃ t, Ev (fun k => laws_szStringS.f k l 1048576) t ∧ (t < 0 ∨ (l.length ≤ 1048576 ∧ ∀ x ∈ l, x.size ≤ 1048576)) := by
  unfold maxLen at hl
  unfold laws_szStringS.f
  have ew : wrap64 (1048576 - (l.length : Int)) = 1048576 - (l.length : Int) := w64 (by omega) (by omega)
  by_cases c : 1048576 - (l.length : Int) < 0
  · refine ⟨-1, ?_, .inl (by omega)⟩
    rw [ew]
    exact evp c (evs _)
  · obtain ⟨t, h1, h2⟩ := szS_loop l (by omega) hm l.length 0 (1048576 - (l.length : Int)) (by omega) (by omega) (by omega)
    refine ⟨t, ?_, ?_⟩
    · rw [ew]
      exact evn c h1
    · rcases h2 with h2 | h2
      · exact .inl h2
      · refine .inr ⟨by omega, fun x hx => ?_⟩
        obtain ⟨i, hi, rfl⟩ := List.getElem_of_mem hx
        rw [← tx_lt hi]
        exact h2 i (by omega) hi
theorem toS_loop (l : List ByteArray) (hl : l.length ≤ 1048576) (e : ByteArray) : ∀ d j, j + d = l.length → Ev (fun k => laws_toStringS.l0 k l (l.take j ++ List.replicate (l.length - j) e) (j : Int)) l
  | 0, j, h => by
    obtain rfl : j = l.length := by omega
    apply evshift
    simp only [laws_toStringS.l0, List.take_length, Nat.sub_self, List.replicate_zero, List.append_nil]
    exact evn (by omega) (evs _)
  | d + 1, j, h => by
    have hj : j < l.length := by omega
    have ih := toS_loop l hl e d (j + 1) (by omega)
    have hlen : (l.take j ++ List.replicate (l.length - j) e).length = l.length := by simp; omega
    have hset : (l.take j ++ List.replicate (l.length - j) e).set j (tx l j) = l.take (j + 1) ++ List.replicate (l.length - (j + 1)) e := by
      have e1 : l.length - j = (l.length - (j + 1)) + 1 := by omega
      have e2 : (l.take j).length = j := by simp; omega
      rw [e1, List.replicate_succ, List.set_append_right _ _ (by omega), e2, Nat.sub_self, tx_lt hj, List.set_cons_zero, List.take_succ_eq_append_getElem hj, List.append_assoc]
      rfl
    apply evshift
    simp only [laws_toStringS.l0]
    refine evp (by omega) (evp (by omega) (evp (by rw [hlen]; omega) ?_))
    rw [Int.toNat_natCast, wnext j (by omega), show rdOf ByteArray.empty l (j : Int) = tx l j from rfl, hset]
    exact ih
theorem ev_toS (l : List ByteArray) (hl : l.length ≤ 1048576) : Ev (fun k => laws_toStringS.f k l) l := by
  unfold laws_toStringS.f
  refine evp (by omega) (evp (by omega) ?_)
  have h := toS_loop l hl (⟨#[]⟩ : ByteArray) l.length 0 (by omega)
  rw [List.take_zero, List.nil_append, Nat.sub_zero] at h
  rw [Int.toNat_natCast]
  exact h
theorem eqS_loop (l : List ByteArray) (hl : l.length ≤ 1048576) : ∀ d j, j + d = l.length → Ev (fun k => laws_eqStringS.l0 k l l (j : Int)) true
  | 0, j, h => by
    apply evshift
    simp only [laws_eqStringS.l0]
    exact evn (by omega) (evs _)
  | d + 1, j, h => by
    have ih := eqS_loop l hl d (j + 1) (by omega)
    apply evshift
    simp only [laws_eqStringS.l0]
    rw [wnext j (by omega)]
    exact evp (by omega) (evp (by omega) (evp (by omega) (evp (by trivial) ih)))
theorem ev_eqS (l : List ByteArray) (hl : l.length ≤ 1048576) : Ev (fun k => laws_eqStringS.f k l l) true := by
  unfold laws_eqStringS.f
  exact evp (by trivial) (eqS_loop l hl l.length 0 (by omega))
theorem FnExactJoinStrings : laws_FnExactJoinStrings.Pure := by
  intro l sep hl hm _
  refine Ev.rounds (g := fun k => laws_FnExactJoinStrings.f k l sep) ?_
  unfold laws_FnExactJoinStrings.f
  by_cases hx : (sep.size : Int) > 1048576
  · exact evp hx (evs _)
  refine evn hx ?_
  obtain ⟨t, ht, hz⟩ := ev_szS l hl hm
  refine evb ht ?_
  by_cases c : t < 0
  · exact evp c (evs _)
  · refine evn c ?_
    obtain ⟨h1, h2⟩ : l.length ≤ 1048576 ∧ ∀ x ∈ l, x.size ≤ 1048576 := by
      rcases hz with hz | hz
      · exact absurd hz c
      · exact hz
    obtain ⟨r, ok, hS, hI⟩ := bothJoinStrings l sep h1 h2
    refine evb (ev_toS l h1) (evb hS (evb (ev_toS l h1) (evb hI (evp rfl ?_))))
    apply evshift
    simp only [laws_FnExactJoinStrings.j0]
    exact evn (by simp) (evb (ev_toS l h1) (evb (ev_eqS l h1) (evp rfl (evs _))))

end Go.Proofs.Ytajmlbpchfakcaa.Pure
