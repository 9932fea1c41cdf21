/- The law laws.FnExactSplitString, told as plain Lean functions of numbers, lists and strings, answers true for every input, if enough rounds are given: the program's SplitString answers what the reference's answers. Conditions: none but the kinds' own (each number one of its kind, each length one that the model reads). -/
import Derived.Test.YtajmlbpchfakcaaDoorPFnExactSplitStringx2
import Derived.Test.YtajmlbpchfakcaaDoorBase
import Derived.Lib.SplitLaws
import Derived.Lib.IndexBytes
import Derived.Lib.IndexLaws
import Derived.Lib.CountLaws
namespace Go.Proofs.YtajmlbpchfakcaaDoor.Pure
open Go.RowKit Go.Proofs.YtajmlbpchfakcaaDoor.PFnExactSplitString Go.Proofs.YtajmlbpchfakcaaDoorW.PrintWords Go.Proofs.YtajmlbpchfakcaaDoorW.PrintLast Go.Proofs.YtajmlbpchfakcaaDoorW.PrintMore Go.Proofs.YtajmlbpchfakcaaDoor.Base

theorem bt_list (x : ByteArray) (j : Nat) : bt x (j : Int) = ((x.data.toList.getD j 0).toNat : Int) := by
  unfold bt
  simp only [Int.toNat_natCast]
  by_cases h : j < x.size
  · have h' : j < x.data.toList.length := by simpa using h
    rw [dif_pos h, List.getD, List.getElem?_eq_getElem h']
    rfl
  · have h' : x.data.toList.length ≤ j := by
      have : x.data.toList.length = x.size := by simp
      omega
    rw [dif_neg h, List.getD, List.getElem?_eq_none h']
    rfl
theorem size_list (x : ByteArray) : x.data.toList.length = x.size := by simp
theorem bytes_same {a b : ByteArray} (h : a.data.toList = b.data.toList) : a = b := by
  cases a with
  | mk a => cases b with
    | mk b => simpa using h
theorem ext_list (s : ByteArray) (a b : Nat) : (s.extract a b).data.toList = (s.data.toList.drop a).take (b - a) := by
  rw [ByteArray.data_extract, Array.toList_extract, List.extract_eq_take_drop]
/-- All parts of a text at a byte. -/
def parts (c : UInt8) (s : ByteArray) : List ByteArray := Lib.splitB ⟨#[c]⟩ 0 (Lib.countB s ⟨#[c]⟩) s
theorem idx_one (s : ByteArray) (c : UInt8) : Lib.indexB s ⟨#[c]⟩ = Lib.indexByte s.data.toList c := by
  show Lib.index s.data.toList [c] = _
  exact Lib.index_one _ _
theorem parts_miss {c : UInt8} {s : ByteArray} (h : Lib.indexByte s.data.toList c = -1) : parts c s = [s] := by
  unfold parts
  exact Lib.splitB_miss _ _ _ _ ((idx_one s c).trans h)
theorem parts_hit {c : UInt8} {s : ByteArray} {i : Nat} (h : Lib.indexByte s.data.toList c = i) : parts c s = s.extract 0 i :: parts c (s.extract (i + 1) s.size) := by
  unfold parts
  have h1 := (idx_one s c).trans h
  rw [Lib.countB_hit s ⟨#[c]⟩ i (Nat.le_refl 1) h1, Nat.add_comm 1, Lib.splitB_hit _ _ _ _ i h1]
  rfl
theorem bt_eq (s : ByteArray) (c : UInt8) {j : Nat} (hj : j < s.size) : bt s (j : Int) = (c.toNat : Int) ↔ s.data.toList[j]? = some c := by
  have hl : j < s.data.toList.length := by rw [size_list]; exact hj
  rw [bt_list, List.getD, List.getElem?_eq_getElem hl]
  show ((s.data.toList[j]).toNat : Int) = _ ↔ _
  constructor
  · intro h
    exact congrArg some (UInt8.toNat_inj.1 (by omega))
  · intro h
    rw [Option.some.inj h]
theorem split_go (s : ByteArray) (c : UInt8) (hs : s.size ≤ 1048576) : ∀ e i st (acc : List ByteArray), i + e = s.size → st ≤ i → acc.length ≤ i → (∀ k, st ≤ k → k < i → s.data.toList[k]? ≠ some c) →
    Ev (fun k => spec_l1Split.l0 k s (c.toNat : Int) acc (st : Int) (i : Int)) (acc ++ parts c (s.extract st s.size))
  | 0, i, st, acc, h, hst, ha, hno => by
    apply evshift
    simp only [spec_l1Split.l0]
    rw [Int.toNat_natCast]
    refine evn (by omega) (evp (by omega) (evp (by omega) (evp (by omega) (eve (evs _) ?_))))
    rw [parts_miss]
    have hge := Lib.indexByte_ge (s.extract st s.size).data.toList c
    apply Classical.byContradiction
    intro hne
    obtain ⟨o, ho⟩ : ∃ o : Nat, Lib.indexByte (s.extract st s.size).data.toList c = o := ⟨(Lib.indexByte (s.extract st s.size).data.toList c).toNat, by omega⟩
    have h1 := (Lib.indexByte_some ho).1
    rw [ext_list, List.getElem?_take] at h1
    split at h1
    · rename_i hlt
      rw [List.getElem?_drop] at h1
      exact hno (st + o) (by omega) (by omega) h1
    · simp at h1
  | e + 1, i, st, acc, h, hst, ha, hno => by
    apply evshift
    simp only [spec_l1Split.l0]
    rw [wnext i (by omega), Int.toNat_natCast, Int.toNat_natCast]
    refine evp (by omega) (evp (by omega) ?_)
    by_cases hc : s.data.toList[i]? = some c
    · refine evp ((bt_eq s c (by omega)).2 hc) (evp (by omega) (evp (by omega) (evp (by omega) (evp (by omega) ?_))))
      have ih := split_go s c hs e (i + 1) (i + 1) (acc ++ [s.extract st i]) (by omega) (by omega) (by simp; omega) (fun k h1 h2 => by omega)
      refine eve ih ?_
      rw [List.append_assoc, List.singleton_append]
      have hidx : Lib.indexByte (s.extract st s.size).data.toList c = ((i - st : Nat) : Int) := by
        have hge := Lib.indexByte_ge (s.extract st s.size).data.toList c
        have hat : (s.extract st s.size).data.toList[i - st]? = some c := by
          rw [ext_list, List.getElem?_take, if_pos (by omega), List.getElem?_drop, show st + (i - st) = i by omega]
          exact hc
        have hne : Lib.indexByte (s.extract st s.size).data.toList c ≠ -1 := fun hm => Lib.indexByte_none hm _ hat
        obtain ⟨o, ho⟩ : ∃ o : Nat, Lib.indexByte (s.extract st s.size).data.toList c = o := ⟨(Lib.indexByte (s.extract st s.size).data.toList c).toNat, by omega⟩
        obtain ⟨h1, h2⟩ := Lib.indexByte_some ho
        rw [ho]
        have h3 : ¬ i - st < o := fun hlt => h2 _ hlt hat
        have h4 : ¬ o < i - st := fun hlt => by
          rw [ext_list, List.getElem?_take, if_pos (by omega), List.getElem?_drop] at h1
          exact hno (st + o) (by omega) (by omega) h1
        omega
      rw [parts_hit hidx]
      have e1 : (s.extract st s.size).extract 0 (i - st) = s.extract st i := by
        apply bytes_same
        rw [ext_list, ext_list, ext_list, List.drop_zero, Nat.sub_zero, List.take_take, Nat.min_eq_left (by omega)]
      have e2 : (s.extract st s.size).extract (i - st + 1) (s.extract st s.size).size = s.extract (i + 1) s.size := by
        apply bytes_same
        have hsz : (s.extract st s.size).size = s.size - st := by rw [ByteArray.size_extract, Nat.min_self]
        rw [ext_list, ext_list, ext_list, hsz, List.drop_take, List.drop_drop, List.take_take, Nat.min_eq_left (by omega)]
        rw [show st + (i - st + 1) = i + 1 by omega, show s.size - st - (i - st + 1) = s.size - (i + 1) by omega]
      rw [e1, e2]
    · refine evn (fun hb => hc ((bt_eq s c (by omega)).1 hb)) ?_
      exact split_go s c hs e (i + 1) st acc (by omega) (by omega) (by omega) (fun k h1 h2 => by
        by_cases hk : k = i
        · subst hk; exact hc
        · exact hno k h1 (by omega))
theorem ext_all (s : ByteArray) : s.extract 0 s.size = s := by
  apply bytes_same
  rw [ext_list, List.drop_zero, Nat.sub_zero, List.take_of_length_le (by rw [size_list]; exact Nat.le_refl _)]
theorem ev_split (s : ByteArray) (c : UInt8) (hs : s.size ≤ 1048576) : Ev (fun k => spec_l1Split.f k s (c.toNat : Int)) (parts c s) := by
  unfold spec_l1Split.f
  have h := split_go s c hs s.size 0 0 [] (by omega) (by omega) (by simp) (fun k h1 h2 => by omega)
  rw [ext_all] at h
  exact h
theorem parts_len (c : UInt8) (s : ByteArray) : (parts c s).length ≤ s.size + 1 := by
  have h1 := Lib.splitB_length_le ⟨#[c]⟩ 0 (Lib.countB s ⟨#[c]⟩) s
  have h2 := Lib.countB_le ⟨#[c]⟩ (Nat.le_refl 1) s.size s (Nat.le_refl _)
  unfold parts
  omega
theorem one_byte (s : ByteArray) (h : s.size = 1) : ∃ c : UInt8, s = ⟨#[c]⟩ ∧ bt s 0 = (c.toNat : Int) := by
  have hl := size_list s
  rw [h] at hl
  match hx : s.data.toList, hl with
  | [c], _ =>
    have e : s = ⟨#[c]⟩ := bytes_same (by rw [hx])
    refine ⟨c, e, ?_⟩
    subst e
    rfl
theorem bothSplitString (s sep : ByteArray) : ∃ R ok, Ev (fun k => spec_SplitString.f k s sep) (R, ok) ∧ impl_SplitString.f s sep = some (R, ok) ∧ R.length ≤ 1048576 := by
  unfold spec_SplitString.f impl_SplitString.f
  by_cases h4 : s.size > 4000
  · refine ⟨[], false, ?_, by rw [if_pos (by omega)], by simp⟩
    by_cases h1 : sep.size = 1
    · exact evp (by omega) (evp (by omega) (evs _))
    · exact evn (by omega) (evs _)
  · rw [if_neg (by omega)]
    by_cases h1 : sep.size = 1
    · obtain ⟨c, rfl, hb⟩ := one_byte sep h1
      refine ⟨parts c s, true, evp (by omega) (evn (by omega) (evp (by omega) ?_)), ?_, ?_⟩
      · rw [hb]; exact evb (ev_split s c (by omega)) (evs _)
      · rw [if_pos (by omega)]
        unfold strings_Split.f
        rw [if_pos ⟨by omega, by omega⟩]
        rfl
      · have := parts_len c s; omega
    · exact ⟨[], false, evn (by omega) (evs _), by rw [if_neg (by omega)], by simp⟩
theorem rdOf_lt {l : List ByteArray} {j : Nat} (h : j < l.length) : rdOf ByteArray.empty l (j : Int) = l[j] := by simp [rdOf, List.getD, h]
theorem ev_eqStringS (l : List ByteArray) (hl : l.length ≤ 1048576) : Ev (fun k => laws_eqStringS.f k l l) true := by
  have loop : ∀ d j, j + d = l.length → Ev (fun k => laws_eqStringS.l0 k l l (j : Int)) true := by
    intro d
    induction d with
    | zero =>
      intro j h
      apply evshift
      simp only [laws_eqStringS.l0]
      exact evn (by omega) (evs _)
    | succ d ih =>
      intro j h
      apply evshift
      simp only [laws_eqStringS.l0]
      rw [wnext j (by omega)]
      exact evp (by omega) (evp (by omega) (evp (by omega) (evp trivial (ih (j + 1) (by omega)))))
  unfold laws_eqStringS.f
  exact evp rfl (loop l.length 0 (by omega))
theorem nums_one (x : Int) : (strOfNums [x]).size = 1 := rfl
theorem markText_loop : ∀ u : Nat, ∀ t : ByteArray, u ≤ 1048578 → t.size + u ≤ 4294967296 → ∃ r, Ev (fun k => laws_markText.l0 k (u : Int) t) r := by
  intro u
  induction u using Nat.strongRecOn with
  | ind u ih =>
    intro t hu ht
    by_cases c : u = 0
    · subst c
      refine ⟨(⟨#[109]⟩ : ByteArray) ++ t, ?_⟩
      apply evshift
      simp only [laws_markText.l0]
      exact evn (by omega) (evp (by omega) (evs _))
    · have hd : Int.tdiv (u : Int) 10 = ((u / 10 : Nat) : Int) := (Int.ofNat_tdiv u 10).symm
      have hz : (strOfNums [(wrap64 (48 + (Int.tmod (u : Int) 10))) % 256] ++ t).size = 1 + t.size := by rw [ByteArray.size_append, nums_one]
      obtain ⟨r, hr⟩ := ih (u / 10) (by omega) (strOfNums [(wrap64 (48 + (Int.tmod (u : Int) 10))) % 256] ++ t) (by omega) (by omega)
      refine ⟨r, ?_⟩
      apply evshift
      simp only [laws_markText.l0, Option.bind_some]
      rw [hd, w64 (x := ((u / 10 : Nat) : Int)) (by omega) (by omega)]
      exact evp (by omega) (evp (by rw [nums_one]; omega) hr)
theorem marks_text : ∃ T : Nat → ByteArray, ∀ n : Nat, n ≤ 1048578 → Ev (fun k => laws_markText.f k (n : Int)) (T n) := by
  have h : ∀ n : Nat, ∃ t : ByteArray, n ≤ 1048578 → Ev (fun k => laws_markText.f k (n : Int)) t := by
    intro n
    by_cases hn : n ≤ 1048578
    · unfold laws_markText.f
      by_cases c : n = 0
      · exact ⟨_, fun _ => evp (by omega) (evs _)⟩
      · obtain ⟨r, hr⟩ := markText_loop n ⟨#[]⟩ hn (by show 0 + n ≤ _; omega)
        exact ⟨r, fun _ => evn (by omega) hr⟩
    · exact ⟨ByteArray.empty, fun h => absurd h hn⟩
  exact ⟨fun n => Classical.choose (h n), fun n hn => Classical.choose_spec (h n) hn⟩
theorem set_next {α : Type} (f : Nat → α) (l : List α) (j : Nat) (h : j < l.length) : ((List.range j).map f ++ l.drop j).set j (f j) = (List.range (j + 1)).map f ++ l.drop (j + 1) := by
  rw [List.drop_eq_getElem_cons h, List.set_append_right _ _ (by simp)]
  simp only [List.length_map, List.length_range, Nat.sub_self, List.set_cons_zero, List.range_succ, List.map_append, List.map_cons, List.map_nil, List.append_assoc, List.cons_append, List.nil_append]
theorem ev_markStringS (T : Nat → ByteArray) (hT : ∀ n : Nat, n ≤ 1048578 → Ev (fun k => laws_markText.f k (n : Int)) (T n)) (l : List ByteArray) (hl : l.length ≤ 1048576) :
    Ev (fun k => laws_markStringS.f k l 1) (((1 + l.length : Nat) : Int), (List.range l.length).map fun i => T (1 + i)) := by
  have loop : ∀ d j, j + d = l.length → Ev (fun k => laws_markStringS.l0 k ((List.range j).map (fun i => T (1 + i)) ++ l.drop j) ((1 + j : Nat) : Int) (j : Int)) (((1 + l.length : Nat) : Int), (List.range l.length).map fun i => T (1 + i)) := by
    intro d
    induction d with
    | zero =>
      intro j h
      have hj : j = l.length := by omega
      apply evshift
      simp only [laws_markStringS.l0]
      rw [hj, List.drop_length, List.append_nil]
      exact evn (by simp) (evs _)
    | succ d ih =>
      intro j h
      apply evshift
      simp only [laws_markStringS.l0]
      rw [wnext j (by omega), wnext (1 + j) (by omega), Int.toNat_natCast]
      refine evp (by simp; omega) (evb (hT (1 + j) (by omega)) (evp (by omega) ?_))
      have e := set_next (fun i => T (1 + i)) l j (by omega)
      rw [e]
      have := ih (j + 1) (by omega)
      rwa [← Nat.add_assoc] at this
  unfold laws_markStringS.f
  have := loop l.length 0 (by omega)
  simpa using this
theorem ev_heldStringS (T : Nat → ByteArray) (hT : ∀ n : Nat, n ≤ 1048578 → Ev (fun k => laws_markText.f k (n : Int)) (T n)) (m : Nat) (hl : m ≤ 1048576) :
    Ev (fun k => laws_heldStringS.f k ((List.range m).map fun i => T (1 + i)) 1) ((1 + m : Nat) : Int) := by
  have loop : ∀ d j, j + d = m → Ev (fun k => laws_heldStringS.l0 k ((List.range m).map fun i => T (1 + i)) ((1 + j : Nat) : Int) (j : Int)) ((1 + m : Nat) : Int) := by
    intro d
    induction d with
    | zero =>
      intro j h
      have hj : j = m := by omega
      apply evshift
      simp only [laws_heldStringS.l0]
      rw [hj]
      exact evn (by simp) (evs _)
    | succ d ih =>
      intro j h
      have hlt : j < ((List.range m).map fun i => T (1 + i)).length := by simp; omega
      apply evshift
      simp only [laws_heldStringS.l0]
      rw [wnext j (by omega), wnext (1 + j) (by omega), rdOf_lt hlt]
      refine evp (by simp; omega) (evp (by omega) (evb (hT (1 + j) (by omega)) (evp (by rw [List.getElem_map, List.getElem_range]) ?_)))
      have := ih (j + 1) (by omega)
      rwa [← Nat.add_assoc] at this
  unfold laws_heldStringS.f
  exact loop m 0 (by omega)
theorem FnExactSplitString : laws_FnExactSplitString.Pure := by
  intro s sep _ _
  refine Ev.rounds (g := fun k => laws_FnExactSplitString.f k s sep) ?_
  unfold laws_FnExactSplitString.f
  by_cases h1 : (s.size : Int) > 1048576
  · exact evp h1 (evs _)
  refine evn h1 ?_
  by_cases h2 : (sep.size : Int) > 1048576
  · exact evp h2 (evs _)
  refine evn h2 ?_
  obtain ⟨R, ok, hS, hI, hR⟩ := bothSplitString s sep
  obtain ⟨T, hT⟩ := marks_text
  have hE := ev_eqStringS R hR
  have hM := ev_markStringS T hT R hR
  have hH := ev_heldStringS T hT R.length hR
  refine evb hS (evc hI (evb hE (evp rfl ?_)))
  apply evshift
  simp only [laws_FnExactSplitString.j0]
  refine evn (by simp) (evb hM (evb hH (evn (by omega) (evp rfl (evc hI (evb hE (evp rfl ?_)))))))
  apply evshift
  simp only [laws_FnExactSplitString.j1]
  exact evn (by simp) (evb hH (evn (by omega) (evp rfl (evs _))))

end Go.Proofs.YtajmlbpchfakcaaDoor.Pure
