/- Written by a program of this session (wip/xprint) out of Lean's own print of the given functions: each function as a plain Lean function, and the proof that the call answers it. -/
import Derived.Test.YtdbdmdegnmoblaaDoorPFnExactJoinSeatsx0
import Derived.Test.YtdbdmdegnmoblaaDoorPFnExactJoinSeatsx1
import Derived.Test.YtdbdmdegnmoblaaDoorPFnExactJoinSeatsx3
import Derived.Test.YtdbdmdegnmoblaaDoorPFnExactJoinSeatsx5
import Derived.Test.YtdbdmdegnmoblaaDoorPFnExactJoinSeatsx6
namespace Go.Proofs.YtdbdmdegnmoblaaDoor.PFnExactJoinSeats
open Go.RowKit Go.Proofs.YtdbdmdegnmoblaaDoorW.PrintWords Go.Proofs.YtdbdmdegnmoblaaDoorW.PrintLast Go.Proofs.YtdbdmdegnmoblaaDoorW.PrintMore
attribute [local go_sem] max2_int min2_int max_two min_two max_three min_three max_four min_four   -- for this text's walks alone
set_option linter.unusedVariables false
set_option linter.unusedSimpArgs false
set_option maxHeartbeats 8000000 in
set_option maxRecDepth 100000 in
theorem laws_FnExactJoinSeats.callsB : laws_FnExactJoinSeats.callsA.1 := by
  intro k a0_0 a0_1 A0_2 c0_2 l0_2 a1_0 a1_1 A1_2 c1_2 l1_2 w hu32 hu34 HR0_2 HC0_2 HR1_2 HC1_2 HT t211 A3 c4b0 t212 A10 c11b0 t213 t214 t215 A19 t218 t219 t220 A20 t223 t224 t225 t228 A21 t230 t231 t232 A22 t236 t237 t238 A23 t242 t243 t244 t247 A24 uq0_ gb209 w26 GW209 GE209 gb210 w27 GW210 GE210 NB209_210 NB210_209 hnb28 hnc28 hcz29_0 hcz29_1 hcz29_2 hfz29_0 hfz29_1 hfz29_2 w30 hcz31_0 hcz31_1 hcz31_2 hfz31_0 hfz31_1 hfz31_2 w32 HT_ HW_ w33 uq1_ v216 v221 gb229 w40 hS_ GW229 GE229 NB209_229 NB229_209 NB210_229 NB229_210 uq2_ Ao43 co43 hs41 hfs41 hns41_0 hns41_1 hms41_0 hms41_1 hs42 hfs42 hns42_0 hns42_1 hms42_0 hms42_1 hs44 hfs44 hns44_0 hns44_1 hms44_0 hms44_1 uq3_ hnb45 hnc45 w47 gb235 w48 GW235 GE235 NB209_235 NB235_209 NB210_235 NB235_210 NB229_235 NB235_229 hnb49 hnc49 hnb50 hnc50 hnb51 hnc51 Ao53 co53 hnb54 hnc54 w56 gb241 w57 GW241 GE241 NB209_241 NB241_209 NB210_241 NB241_210 NB229_241 NB241_229 NB235_241 NB241_235 hnb58 hnc58 hnb59 hnc59 hnb60 hnc60 hnb61 hnc61 Ao63 co63 w65 gb248 w66 uq4_ uq5_ uq6_ uq7_ uq8_ uq9_ uq10_ GW248 GE248 NB209_248 NB248_209 NB210_248 NB248_210 NB229_248 NB248_229 NB235_248 NB248_235 NB241_248 NB248_241 hnb67 hnc67 hnb68 hnc68 hnb69 hnc69 hnb70 hnc70 hnb71 hnc71 Ao73 co73 HO217 HO222 HO227 HO234 HO240 HO246 uq11_ uq12_ uq13_ uq14_ uq15_ uq16_ uq17_ uq18_ uq19_ uq20_ uq21_ uq22_ uq23_ uq24_ uq25_ uq26_ uq27_ uq28_ uq29_ uq30_ uq31_ uq32_ uq33_ uq34_ uq35_ uq36_ uq37_ uq38_ uq39_ uq40_ uq41_ uq42_ uq43_ uq44_ uq45_ uq46_ uq47_ uq48_ uq49_ uq50_ uq51_ uq52_ uq53_ uq54_ uq55_ uq56_ uq57_ uq58_ uq59_ uq60_ uq61_ uq62_ uq63_ uq64_ uq65_ uq66_ uq67_ uq68_ uq69_ uq70_ uq71_ uq72_ uq73_ uq74_ uq75_ u82 uq76_ uq77_ uq78_ uq79_ uq80_ uq81_ uq82_ uq83_ uq84_ uq85_ uq86_ uq87_ uq88_ uq89_ uq90_ uq91_ uq92_ uq93_ uq94_ uq95_ uq96_ uq97_ uq98_ uq99_ uq100_ uq101_ uq102_ uq103_ uq104_ uq105_ uq106_ uq107_ uq108_ uq109_ uq110_ uq111_ kj24 HJ24 t250 t251 t252 A89 A90 t256 t257 t258 A92 A93 t262 t263 A95 t264 t265 A96 w98 uq112_ w99 Ao100 co100 uq113_ w101 uq114_ w102 uq115_ w103 Ao104 co104 uq116_ w105 hHeld hnb106 hnc106 hnb107 hnc107 hnb108 hnc108 hnb109 hnc109 hnb110 hnc110 w112 hnb113 hnc113 hnb114 hnc114 hnb115 hnc115 hnb116 hnc116 w118 uq117_ uq118_ uq119_ uq120_ uq121_ uq122_ uq123_ uq124_ uq125_ uq126_ HO254 HO260 uq127_ uq128_ uq129_ uq130_ uq131_ wc u17 u18 u19 u20 u21 u22 u23 u24 u25 u26 u27 u28 u29 u30 u31 u32 u33 u34 u35 u36 u37 u38 u39 u40 u41 u42 u43 u44 u45 u46 u47 u48 u49 u50 u51 u52 u53 u54 u55 u56 u57 u58 u59 u60 u61 u62 u63 u64 u65 u66 u67 u68 u69 u70 u71 u72 u73 u74 u75 u76 u77 u78 u79 u80 u81 u83 u84 u85 u86 u87 u88 u89 u90 u91 u92 u93 u94 u95 u96 u97 u98 u99 u100 u101 u102 u103 u104 u105 u106 u107 u108 u109 u110 u111 u112 u113 u114 u115 u116 u117 u118 kq x82_96 HA HJ96 HO_230002 HO_236002 HO_242002 HO_249002 BK209 BK210 BK229 BK235 BK241 BK248 HB
  have hl236002_96 := (Kd.R_reads' HO_236002.out).1
  rw [hl236002_96] at HO_236002
  (try simp only [hl236002_96])
  (try simp only [hl236002_96] at BK209)
  (try simp only [hl236002_96] at BK210)
  (try simp only [hl236002_96] at BK229)
  (try simp only [hl236002_96] at BK235)
  (try simp only [hl236002_96] at BK241)
  (try simp only [hl236002_96] at BK248)
  (try simp only [hl236002_96] at HO_230002)
  (try simp only [hl236002_96] at HO_242002)
  (try simp only [hl236002_96] at HO_249002)
  have hl242002_96 := (Kd.R_reads' HO_242002.out).1
  rw [hl242002_96] at HO_242002
  (try simp only [hl242002_96])
  (try simp only [hl242002_96] at BK209)
  (try simp only [hl242002_96] at BK210)
  (try simp only [hl242002_96] at BK229)
  (try simp only [hl242002_96] at BK235)
  (try simp only [hl242002_96] at BK241)
  (try simp only [hl242002_96] at BK248)
  (try simp only [hl242002_96] at HO_230002)
  (try simp only [hl242002_96] at HO_236002)
  (try simp only [hl242002_96] at HO_249002)
  cases kq with
  | zero => exact absurd HA.out (by simp [laws_FnExactJoinSeats.j1])
  | succ kj96 =>
    have H := HA.out
    clear HA
    simp only [laws_FnExactJoinSeats.j1] at H
    by_cases c134 : x82_96 = true
    · subst c134
      have H1 : (some false) = some true := by rw [if_pos rfl] at H; exact H
      clear H
      have H := H1
      clear H1
      exact absurd (Option.some.inj H) (by decide)
    · replace c134 := Bool.eq_false_iff.mpr c134
      subst c134
      have H1 : ((laws_markRow.f kj96 t242 t243 t244 1).bind fun bt267 => ((laws_heldRow.f kj96 t242 t243 bt267.2 1).bind fun t269 => (if t269 < 0 then (some false) else (if t269 = bt267.1 then ((laws_toRow.f kj96 a0_0 a0_1 l0_2).bind fun bt270 => ((laws_toRow.f kj96 a1_0 a1_1 l1_2).bind fun bt275 => ((impl_JoinSeats.f kj96 bt270.1 bt270.2.1 bt270.2.2 bt275.1 bt275.2.1 bt275.2.2).bind fun bt280 => ((laws_eqRow.f kj96 bt280.1 bt280.2.1 bt280.2.2.1 t223 t224 t225).bind fun t287 => (if t287 = true then (laws_FnExactJoinSeats.j2 kj96 bt267.1 (bt280.2.2.2 != t228) t242 t243 bt267.2) else (laws_FnExactJoinSeats.j2 kj96 bt267.1 true t242 t243 bt267.2)))))) else (some false))))) = some true := by rw [if_neg (show ¬ (false = true) by decide)] at H; exact H
      clear H
      have H := H1
      clear H1
      replace H := Option.bind_eq_some_iff.mp H
      obtain ⟨⟨t267, t268⟩, A1350, H⟩ := H
      replace H : ((laws_heldRow.f kj96 t242 t243 t268 1).bind fun t269 => (if t269 < 0 then (some false) else (if t269 = t267 then ((laws_toRow.f kj96 a0_0 a0_1 l0_2).bind fun bt270 => ((laws_toRow.f kj96 a1_0 a1_1 l1_2).bind fun bt275 => ((impl_JoinSeats.f kj96 bt270.1 bt270.2.1 bt270.2.2 bt275.1 bt275.2.1 bt275.2.2).bind fun bt280 => ((laws_eqRow.f kj96 bt280.1 bt280.2.1 bt280.2.2.1 t223 t224 t225).bind fun t287 => (if t287 = true then (laws_FnExactJoinSeats.j2 kj96 t267 (bt280.2.2.2 != t228) t242 t243 t268) else (laws_FnExactJoinSeats.j2 kj96 t267 true t242 t243 t268)))))) else (some false)))) = some true := H
      have A135 := Aside0.mk A1350
      clear A1350
      replace H := Option.bind_eq_some_iff.mp H
      obtain ⟨t269, A1360, H⟩ := H
      replace H : (if t269 < 0 then (some false) else (if t269 = t267 then ((laws_toRow.f kj96 a0_0 a0_1 l0_2).bind fun bt270 => ((laws_toRow.f kj96 a1_0 a1_1 l1_2).bind fun bt275 => ((impl_JoinSeats.f kj96 bt270.1 bt270.2.1 bt270.2.2 bt275.1 bt275.2.1 bt275.2.2).bind fun bt280 => ((laws_eqRow.f kj96 bt280.1 bt280.2.1 bt280.2.2.1 t223 t224 t225).bind fun t287 => (if t287 = true then (laws_FnExactJoinSeats.j2 kj96 t267 (bt280.2.2.2 != t228) t242 t243 t268) else (laws_FnExactJoinSeats.j2 kj96 t267 true t242 t243 t268)))))) else (some false))) = some true := H
      have A136 := Aside0.mk A1360
      clear A1360
      by_cases c137 : t269 < 0
      · rw [if_pos c137] at H
        have c137b0 : decide (t269 < 0) = true := decide_eq_true c137
        clear c137
        exact absurd (Option.some.inj H) (by decide)
      · rw [if_neg c137] at H
        have c137b0 : decide (t269 < 0) = false := decide_eq_false c137
        clear c137
        by_cases c138 : t269 = t267
        · rw [if_pos c138] at H
          have c138b0 : (t269 == t267) = true := beq_iff_eq.mpr c138
          have c138b1 : (t269 != t267) = false := bne_eq_false_iff_eq.mpr c138
          clear c138
          replace H := Option.bind_eq_some_iff.mp H
          obtain ⟨⟨t270, t271, t272⟩, A1390, H⟩ := H
          replace H : ((laws_toRow.f kj96 a1_0 a1_1 l1_2).bind fun bt275 => ((impl_JoinSeats.f kj96 t270 t271 t272 bt275.1 bt275.2.1 bt275.2.2).bind fun bt280 => ((laws_eqRow.f kj96 bt280.1 bt280.2.1 bt280.2.2.1 t223 t224 t225).bind fun t287 => (if t287 = true then (laws_FnExactJoinSeats.j2 kj96 t267 (bt280.2.2.2 != t228) t242 t243 t268) else (laws_FnExactJoinSeats.j2 kj96 t267 true t242 t243 t268))))) = some true := H
          have A139 := Aside0.mk A1390
          clear A1390
          replace H := Option.bind_eq_some_iff.mp H
          obtain ⟨⟨t275, t276, t277⟩, A1400, H⟩ := H
          replace H : ((impl_JoinSeats.f kj96 t270 t271 t272 t275 t276 t277).bind fun bt280 => ((laws_eqRow.f kj96 bt280.1 bt280.2.1 bt280.2.2.1 t223 t224 t225).bind fun t287 => (if t287 = true then (laws_FnExactJoinSeats.j2 kj96 t267 (bt280.2.2.2 != t228) t242 t243 t268) else (laws_FnExactJoinSeats.j2 kj96 t267 true t242 t243 t268)))) = some true := H
          have A140 := Aside0.mk A1400
          clear A1400
          replace H := Option.bind_eq_some_iff.mp H
          obtain ⟨⟨t280, t281, t282, t285⟩, A1410, H⟩ := H
          replace H : ((laws_eqRow.f kj96 t280 t281 t282 t223 t224 t225).bind fun t287 => (if t287 = true then (laws_FnExactJoinSeats.j2 kj96 t267 (t285 != t228) t242 t243 t268) else (laws_FnExactJoinSeats.j2 kj96 t267 true t242 t243 t268))) = some true := H
          have A141 := Aside0.mk A1410
          clear A1410
          have HC142 := Aside0.mk H
          clear H
          have hnb143 := NB248_209.out
          have hnc143 := NB209_248.out
          have hnb144 := NB248_210.out
          have hnc144 := NB210_248.out
          have hnb145 := NB248_229.out
          have hnc145 := NB229_248.out
          have hnb146 := NB248_235.out
          have hnc146 := NB235_248.out
          have hnb147 := NB248_241.out
          have hnc147 := NB241_248.out
          have hcz148_0 : wc.cell? ⟨gb248, 0, none⟩ = some (.int .i64 t242) := (blk_cell BK248.out 0).trans rfl
          have hcz148_1 : wc.cell? ⟨gb248, 1, none⟩ = some (.bool t243) := (blk_cell BK248.out 1).trans rfl
          have hcz148_2 : wc.cell? ⟨gb248, 2, none⟩ = some (.slice Ao73 t244.length co73) := (blk_cell BK248.out 2).trans rfl
          have hfz148_0 := blk_frozen BK248.out 0
          have hfz148_1 := blk_frozen BK248.out 1
          have hfz148_2 := blk_frozen BK248.out 2
          try go_wp2_with (first | ((with_reducible refine gate_callee (f := 21) rfl ?_); refine goesL_ (some 85) rfl rfl Tryd.func21 (by kernel_rfl) rfl #[.agg #[.int .i64 t242, .bool t243, .slice Ao73 t244.length co73], .int .i64 1] rfl (by (try simp only [List.map_toArray, List.map_cons, List.map_nil]); first | done | rfl | (simp only [List.length_drop, List.length_take]; rfl)) ?_; (with_reducible refine (laws_markRow.calls kj96 t242 t243 (fun k_ => some k_ = (.slice Ao73 t244.length co73 : Value).ownBlock) (.slice Ao73 t244.length co73) t244 1 t267 t268 w _ ?side1 ?side2 A135.out).mono ?_); (case side1 => repeat (first | (with_reducible first | exact HB.out | apply below_alloc | apply pw_below_drewN | apply below_drew1 | refine below_set ?_ GE209.out | refine below_set ?_ GE210.out | refine below_set ?_ GE229.out | refine below_set ?_ GE235.out | refine below_set ?_ GE241.out | refine below_set ?_ GE248.out) | exact HB.out)); (case side2 => exact Kd.R_tight rfl HO_249002.out); rintro e w149 ⟨rfl, hy0, hb, hkp⟩; refine ⟨_, rfl, ?_⟩; have n0_ := Aside0.mk (Kd.V_mono (ok' := fun k_ => some k_ ≠ (.slice Ao53 t263.length co53 : Value).ownBlock ∧ some k_ ≠ (.slice Ao63 t265.length co63 : Value).ownBlock ∧ some k_ ≠ (.slice Ao73 t244.length co73 : Value).ownBlock ∧ k_ ≠ gb209 ∧ k_ ≠ gb210 ∧ k_ ≠ gb229 ∧ k_ ≠ gb235 ∧ k_ ≠ gb241 ∧ k_ ≠ gb248) (Kd.V_keptB (HO_230002.out) hkp (fun k_ hk_ hs_ => (hk_.2.2.1) hs_)) (fun k_ hk_ => ⟨hk_.1.1, hk_.1.2.1, hk_.1.2.2.1, hk_.1.2.2.2.1, hk_.1.2.2.2.2.1, hk_.1.2.2.2.2.2.1, hk_.1.2.2.2.2.2.2.1, hk_.1.2.2.2.2.2.2.2.1, hk_.1.2.2.2.2.2.2.2.2⟩)); have n1_ := Aside0.mk (Kd.R_mono (ok' := fun k_ => some k_ ≠ (.slice Ao63 t265.length co63 : Value).ownBlock ∧ some k_ ≠ (.slice Ao73 t244.length co73 : Value).ownBlock) (Kd.R_keptB (HO_236002.out) hkp (fun k_ hk_ hs_ => (hk_.2) hs_)) (fun k_ hk_ => ⟨hk_.1.1, hk_.1.2⟩)); have n2_ := Aside0.mk (Kd.R_mono (ok' := fun k_ => some k_ ≠ (.slice Ao53 t263.length co53 : Value).ownBlock ∧ some k_ ≠ (.slice Ao73 t244.length co73 : Value).ownBlock) (Kd.R_keptB (HO_242002.out) hkp (fun k_ hk_ hs_ => (hk_.2) hs_)) (fun k_ hk_ => ⟨hk_.1.1, hk_.1.2⟩)); have n3_ := Aside0.mk (Kd.R_reok rfl hy0 (fun k_ e_ => HO_249002.out.1 k_ e_)); have n4_ := Aside0.mk (blk_kept (by (with_reducible repeat (first | refine blk_drewN ?_ _ | refine blk_drew ?_ | refine blk_alloc ?_ _)); exact BK209.out) hkp (fun hs_ => (fun e_ => (Kd.R_ne HO_249002.out BK209.out (by decide)) e_) hs_)); have n5_ := Aside0.mk (blk_kept (by (with_reducible repeat (first | refine blk_drewN ?_ _ | refine blk_drew ?_ | refine blk_alloc ?_ _)); exact BK210.out) hkp (fun hs_ => (fun e_ => (Kd.R_ne HO_249002.out BK210.out (by decide)) e_) hs_)); have n6_ := Aside0.mk (blk_kept (by (with_reducible repeat (first | refine blk_drewN ?_ _ | refine blk_drew ?_ | refine blk_alloc ?_ _)); exact BK229.out) hkp (fun hs_ => (fun e_ => (Kd.R_ne HO_249002.out BK229.out (by decide)) e_) hs_)); have n7_ := Aside0.mk (blk_kept (by (with_reducible repeat (first | refine blk_drewN ?_ _ | refine blk_drew ?_ | refine blk_alloc ?_ _)); exact BK235.out) hkp (fun hs_ => (fun e_ => (Kd.R_ne HO_249002.out BK235.out (by decide)) e_) hs_)); have n8_ := Aside0.mk (blk_kept (by (with_reducible repeat (first | refine blk_drewN ?_ _ | refine blk_drew ?_ | refine blk_alloc ?_ _)); exact BK241.out) hkp (fun hs_ => (fun e_ => (Kd.R_ne HO_249002.out BK241.out (by decide)) e_) hs_)); have n9_ := Aside0.mk (blk_kept (by (with_reducible repeat (first | refine blk_drewN ?_ _ | refine blk_drew ?_ | refine blk_alloc ?_ _)); exact BK248.out) hkp (fun hs_ => (fun e_ => (Kd.R_ne HO_249002.out BK248.out (by decide)) e_) hs_)); have n10_ := Aside0.mk (hb); clear HO_230002; clear HO_236002; clear HO_242002; clear HO_249002; clear BK209; clear BK210; clear BK229; clear BK235; clear BK241; clear BK248; clear HB; have HO_230002 := n0_; have HO_236002 := n1_; have HO_242002 := n2_; have HO_249002 := n3_; have BK209 := n4_; have BK210 := n5_; have BK229 := n6_; have BK235 := n7_; have BK241 := n8_; have BK248 := n9_; have HB := n10_; clear n0_ n1_ n2_ n3_ n4_ n5_ n6_ n7_ n8_ n9_ n10_; (try clear hb); (try clear hkp); (try clear hy0); have hcz150_0 : w149.cell? ⟨gb248, 0, none⟩ = some (.int .i64 t242) := (blk_cell BK248.out 0).trans rfl; have hcz150_1 : w149.cell? ⟨gb248, 1, none⟩ = some (.bool t243) := (blk_cell BK248.out 1).trans rfl; have hcz150_2 : w149.cell? ⟨gb248, 2, none⟩ = some (.slice Ao73 t244.length co73) := (blk_cell BK248.out 2).trans rfl; have hfz150_0 := blk_frozen BK248.out 0; have hfz150_1 := blk_frozen BK248.out 1; have hfz150_2 := blk_frozen BK248.out 2) | ((with_reducible refine gate_callee (f := 22) rfl ?_); refine goesL_ (some 88) rfl rfl Tryd.func22 (by kernel_rfl) rfl #[.agg #[.int .i64 t242, .bool t243, .slice Ao73 t268.length co73], .int .i64 1] rfl (by (try simp only [List.map_toArray, List.map_cons, List.map_nil]); first | done | (rw [show t268.length = t244.length from (Kd.R_reads' HO_249002.out).1.symm] <;> rfl) | rfl | (simp only [List.length_drop, List.length_take]; rfl)) ?_; (with_reducible refine (laws_heldRow.calls kj96 t242 t243 _ _ t268 1 t269 _ ?side1 ?side2 A136.out).mono ?_); (case side1 => repeat (first | exact (Kd.R_reads' HO_249002.out).2.2 | (with_reducible refine Kd.C_alloc ?_ _) | (with_reducible refine Kd.C_drewN ?_ _) | (with_reducible refine Kd.C_drew ?_))); (case side2 => rw [show t268.length = t244.length from (Kd.R_reads' HO_249002.out).1.symm]; exact (Kd.R_reads' HO_249002.out).2.1); rintro e w151 ⟨rfl, hb⟩; refine ⟨_, rfl, ?_⟩; have n0_ := Aside0.mk (Kd.V_below (by (with_reducible repeat (first | apply Kd.V_alloc | apply Kd.V_drewN | apply Kd.V_drew)); exact HO_230002.out) hb); have n1_ := Aside0.mk (Kd.R_below (by (with_reducible repeat (first | apply Kd.R_alloc | apply Kd.R_drewN | apply Kd.R_drew)); exact HO_236002.out) hb); have n2_ := Aside0.mk (Kd.R_below (by (with_reducible repeat (first | apply Kd.R_alloc | apply Kd.R_drewN | apply Kd.R_drew)); exact HO_242002.out) hb); have n3_ := Aside0.mk (Kd.R_below (by (with_reducible repeat (first | apply Kd.R_alloc | apply Kd.R_drewN | apply Kd.R_drew)); exact HO_249002.out) hb); have n4_ := Aside0.mk (blk_below (g := gb209) (o := .cells #[.int .i64 a0_0, .bool a0_1, .slice A0_2 l0_2.length c0_2] 32 (0, 0)) (by (with_reducible repeat (first | refine blk_drewN ?_ _ | refine blk_drew ?_ | refine blk_alloc ?_ _)); exact BK209.out) hb); have n5_ := Aside0.mk (blk_below (g := gb210) (o := .cells #[.int .i64 a1_0, .bool a1_1, .slice A1_2 l1_2.length c1_2] 32 (0, 0)) (by (with_reducible repeat (first | refine blk_drewN ?_ _ | refine blk_drew ?_ | refine blk_alloc ?_ _)); exact BK210.out) hb); have n6_ := Aside0.mk (blk_below (g := gb229) (o := .cells #[.int .i64 t223, .bool t224, .slice Ao43 t225.length co43] 34 (0, 0)) (by (with_reducible repeat (first | refine blk_drewN ?_ _ | refine blk_drew ?_ | refine blk_alloc ?_ _)); exact BK229.out) hb); have n7_ := Aside0.mk (blk_below (g := gb235) (o := .cells #[.int .i64 t230, .bool t231, .slice Ao53 t263.length co53] 34 (0, 0)) (by (with_reducible repeat (first | refine blk_drewN ?_ _ | refine blk_drew ?_ | refine blk_alloc ?_ _)); exact BK235.out) hb); have n8_ := Aside0.mk (blk_below (g := gb241) (o := .cells #[.int .i64 t236, .bool t237, .slice Ao63 t265.length co63] 34 (0, 0)) (by (with_reducible repeat (first | refine blk_drewN ?_ _ | refine blk_drew ?_ | refine blk_alloc ?_ _)); exact BK241.out) hb); have n9_ := Aside0.mk (blk_below (g := gb248) (o := .cells #[.int .i64 t242, .bool t243, .slice Ao73 t244.length co73] 34 (0, 0)) (by (with_reducible repeat (first | refine blk_drewN ?_ _ | refine blk_drew ?_ | refine blk_alloc ?_ _)); exact BK248.out) hb); have n10_ := Aside0.mk (below_step (by repeat (first | (with_reducible first | exact HB.out | apply below_alloc | apply pw_below_drewN | apply below_drew1 | refine below_set ?_ GE209.out | refine below_set ?_ GE210.out | refine below_set ?_ GE229.out | refine below_set ?_ GE235.out | refine below_set ?_ GE241.out | refine below_set ?_ GE248.out) | exact HB.out)) hb); clear HO_230002; clear HO_236002; clear HO_242002; clear HO_249002; clear BK209; clear BK210; clear BK229; clear BK235; clear BK241; clear BK248; clear HB; have HO_230002 := n0_; have HO_236002 := n1_; have HO_242002 := n2_; have HO_249002 := n3_; have BK209 := n4_; have BK210 := n5_; have BK229 := n6_; have BK235 := n7_; have BK241 := n8_; have BK248 := n9_; have HB := n10_; clear n0_ n1_ n2_ n3_ n4_ n5_ n6_ n7_ n8_ n9_ n10_; (try clear hb); (try clear hb2); (try clear hk); (try clear hi)))
          have n0_ := Aside0.mk (Kd.V_drew HO_230002.out)
          have n1_ := Aside0.mk (Kd.R_drew HO_236002.out)
          have n2_ := Aside0.mk (Kd.R_drew HO_242002.out)
          have n3_ := Aside0.mk (Kd.R_drew HO_249002.out)
          have n4_ := Aside0.mk (blk_drew BK209.out)
          have n5_ := Aside0.mk (blk_drew BK210.out)
          have n6_ := Aside0.mk (blk_drew BK229.out)
          have n7_ := Aside0.mk (blk_drew BK235.out)
          have n8_ := Aside0.mk (blk_drew BK241.out)
          have n9_ := Aside0.mk (blk_drew BK248.out)
          have n10_ := Aside0.mk (below_drew1 HB.out)
          clear HO_230002
          clear HO_236002
          clear HO_242002
          clear HO_249002
          clear BK209
          clear BK210
          clear BK229
          clear BK235
          clear BK241
          clear BK248
          clear HB
          have HO_230002 := n0_
          have HO_236002 := n1_
          have HO_242002 := n2_
          have HO_249002 := n3_
          have BK209 := n4_
          have BK210 := n5_
          have BK229 := n6_
          have BK235 := n7_
          have BK241 := n8_
          have BK248 := n9_
          have HB := n10_
          clear n0_ n1_ n2_ n3_ n4_ n5_ n6_ n7_ n8_ n9_ n10_
          refine start_ (n := 11) (S := fun w' => w'.cell? ⟨gb209, 0, none⟩ = some (.int .i64 a0_0) ∧ w'.cell? ⟨gb209, 1, none⟩ = some (.bool a0_1) ∧ w'.cell? ⟨gb209, 2, none⟩ = some (.slice A0_2 l0_2.length c0_2) ∧ w'.cell? ⟨gb210, 0, none⟩ = some (.int .i64 a1_0) ∧ w'.cell? ⟨gb210, 1, none⟩ = some (.bool a1_1) ∧ w'.cell? ⟨gb210, 2, none⟩ = some (.slice A1_2 l1_2.length c1_2)) (ds := []) #[false, false, false, false, false, false, false, false, false, false, false] (by kernel_rfl) rfl rfl ⟨(blk_cell BK209.out 0).trans rfl, (blk_cell BK209.out 1).trans rfl, (blk_cell BK209.out 2).trans rfl, (blk_cell BK210.out 0).trans rfl, (blk_cell BK210.out 1).trans rfl, (blk_cell BK210.out 2).trans rfl⟩ (fun hHeld => ?_); refine with_tabW laws_FnExactJoinSeats.tab31 laws_FnExactJoinSeats.bits31 (fun HT_ HW_ => ?_)
          generalize w151.drew = w152 at HO_230002 HO_236002 HO_242002 HO_249002 BK209 BK210 BK229 BK235 BK241 BK248 HB hHeld ⊢
          refine take_ (i := 0) (N := some 95) (v := ?_) (a' := ?_) #[true, false, false, false, false, false, false, false, false, false, false] rfl rfl (take_ofW HT_.out HW_.out (by kernel_rfl)) (fun _ _ _ h => h) (Or.inl ⟨by rfl, ?_⟩) hHeld ?_ ?_
          rotate_left
          · rintro w' ⟨s0, s1, s2, s3, s4, s5⟩
            go_simp
            with_reducible rfl
          rotate_left
          · simp only [Act.put, List.setIfInBounds_toArray, List.set_cons_zero, List.set_cons_succ, i64_w, i32_w]
            rfl
          refine take_ (i := 2) (N := some 97) (v := ?_) (a' := ?_) #[true, false, true, false, false, false, false, false, false, false, false] rfl rfl (take_ofW HT_.out HW_.out (by kernel_rfl)) (fun _ _ _ h => h) (Or.inl ⟨by rfl, ?_⟩) hHeld ?_ ?_
          rotate_left
          · rintro w' ⟨s0, s1, s2, s3, s4, s5⟩
            go_simp
            with_reducible rfl
          rotate_left
          · simp only [Act.put, List.setIfInBounds_toArray, List.set_cons_zero, List.set_cons_succ, i64_w, i32_w]
            rfl
          refine join_ (σ := Value × Value × Value × Nat) 2 #[true, true, true, true, true, true, true, true, true, false, false] (fun s_ => [(96, .agg #[.int .i64 t270, .bool t271, s_.1]), (98, .agg #[.int .i64 t275, .bool t276, s_.2.1]), (99, .tuple #[.agg #[.int .i64 t280, .bool t281, s_.2.2.1], .bool t285]), (15, .pointer (some ⟨s_.2.2.2, 0, none⟩)), (94, .tuple #[.agg #[.int .i64 t280, .bool t281, s_.2.2.1], .bool t285]), (100, .agg #[.int .i64 t280, .bool t281, s_.2.2.1]), (101, .bool t285)]) (fun s_ w' => (w'.cell? ⟨gb209, 0, none⟩ = some (.int .i64 a0_0) ∧ w'.cell? ⟨gb209, 1, none⟩ = some (.bool a0_1) ∧ w'.cell? ⟨gb209, 2, none⟩ = some (.slice A0_2 l0_2.length c0_2) ∧ w'.cell? ⟨gb210, 0, none⟩ = some (.int .i64 a1_0) ∧ w'.cell? ⟨gb210, 1, none⟩ = some (.bool a1_1) ∧ w'.cell? ⟨gb210, 2, none⟩ = some (.slice A1_2 l1_2.length c1_2)) ∧ (Kd.R (Kd.int .i64) 3 w' w.heap.size (fun k_ => some k_ ≠ (s_.2.1 : Value).ownBlock ∧ some k_ ≠ (s_.2.2.1 : Value).ownBlock ∧ some k_ ≠ (.slice Ao53 t263.length co53 : Value).ownBlock ∧ some k_ ≠ (.slice Ao63 t265.length co63 : Value).ownBlock ∧ some k_ ≠ (.slice Ao73 t244.length co73 : Value).ownBlock) s_.1 t272) ∧ (Kd.R (Kd.int .i64) 3 w' w.heap.size (fun k_ => some k_ ≠ (s_.1 : Value).ownBlock ∧ some k_ ≠ (s_.2.2.1 : Value).ownBlock ∧ some k_ ≠ (.slice Ao53 t263.length co53 : Value).ownBlock ∧ some k_ ≠ (.slice Ao63 t265.length co63 : Value).ownBlock ∧ some k_ ≠ (.slice Ao73 t244.length co73 : Value).ownBlock) s_.2.1 t277) ∧ (Kd.R (Kd.int .i64) 3 w' w.heap.size (fun k_ => some k_ ≠ (s_.1 : Value).ownBlock ∧ some k_ ≠ (s_.2.1 : Value).ownBlock ∧ some k_ ≠ (.slice Ao53 t263.length co53 : Value).ownBlock ∧ some k_ ≠ (.slice Ao63 t265.length co63 : Value).ownBlock ∧ some k_ ≠ (.slice Ao73 t244.length co73 : Value).ownBlock) s_.2.2.1 t282) ∧ (Kd.V (Kd.int .i64) 3 w' w.heap.size (fun k_ => some k_ ≠ (s_.1 : Value).ownBlock ∧ some k_ ≠ (s_.2.1 : Value).ownBlock ∧ some k_ ≠ (s_.2.2.1 : Value).ownBlock ∧ some k_ ≠ (.slice Ao53 t263.length co53 : Value).ownBlock ∧ some k_ ≠ (.slice Ao63 t265.length co63 : Value).ownBlock ∧ some k_ ≠ (.slice Ao73 t244.length co73 : Value).ownBlock ∧ k_ ≠ gb209 ∧ k_ ≠ gb210 ∧ k_ ≠ gb229 ∧ k_ ≠ gb235 ∧ k_ ≠ gb241 ∧ k_ ≠ gb248 ∧ k_ ≠ s_.2.2.2) (.slice Ao43 t225.length co43) t225) ∧ (Kd.R (Kd.int .i64) 3 w' w.heap.size (fun k_ => some k_ ≠ (s_.1 : Value).ownBlock ∧ some k_ ≠ (s_.2.1 : Value).ownBlock ∧ some k_ ≠ (s_.2.2.1 : Value).ownBlock ∧ some k_ ≠ (.slice Ao63 t265.length co63 : Value).ownBlock ∧ some k_ ≠ (.slice Ao73 t244.length co73 : Value).ownBlock) (.slice Ao53 t263.length co53) t263) ∧ (Kd.R (Kd.int .i64) 3 w' w.heap.size (fun k_ => some k_ ≠ (s_.1 : Value).ownBlock ∧ some k_ ≠ (s_.2.1 : Value).ownBlock ∧ some k_ ≠ (s_.2.2.1 : Value).ownBlock ∧ some k_ ≠ (.slice Ao53 t263.length co53 : Value).ownBlock ∧ some k_ ≠ (.slice Ao73 t244.length co73 : Value).ownBlock) (.slice Ao63 t265.length co63) t265) ∧ (Kd.R (Kd.int .i64) 3 w' w.heap.size (fun k_ => some k_ ≠ (s_.1 : Value).ownBlock ∧ some k_ ≠ (s_.2.1 : Value).ownBlock ∧ some k_ ≠ (s_.2.2.1 : Value).ownBlock ∧ some k_ ≠ (.slice Ao53 t263.length co53 : Value).ownBlock ∧ some k_ ≠ (.slice Ao63 t265.length co63 : Value).ownBlock) (.slice Ao73 t244.length co73) t268) ∧ (w'.heap[gb209]? = some (.cells #[.int .i64 a0_0, .bool a0_1, .slice A0_2 l0_2.length c0_2] 32 (0, 0))) ∧ (w'.heap[gb210]? = some (.cells #[.int .i64 a1_0, .bool a1_1, .slice A1_2 l1_2.length c1_2] 32 (0, 0))) ∧ (w'.heap[gb229]? = some (.cells #[.int .i64 t223, .bool t224, .slice Ao43 t225.length co43] 34 (0, 0))) ∧ (w'.heap[gb235]? = some (.cells #[.int .i64 t230, .bool t231, .slice Ao53 t263.length co53] 34 (0, 0))) ∧ (w'.heap[gb241]? = some (.cells #[.int .i64 t236, .bool t237, .slice Ao63 t265.length co63] 34 (0, 0))) ∧ (w'.heap[gb248]? = some (.cells #[.int .i64 t242, .bool t243, .slice Ao73 t244.length co73] 34 (0, 0))) ∧ (w'.heap[s_.2.2.2]? = some (.cells #[.int .i64 0, .bool false, .slice none 0 0] 34 (0, 0))) ∧ (w.heap.size ≤ s_.2.2.2) ∧ (w.heap.size ≤ s_.2.2.2) ∧ (gb209 ≠ s_.2.2.2) ∧ (s_.2.2.2 ≠ gb209) ∧ (gb210 ≠ s_.2.2.2) ∧ (s_.2.2.2 ≠ gb210) ∧ (gb229 ≠ s_.2.2.2) ∧ (s_.2.2.2 ≠ gb229) ∧ (gb235 ≠ s_.2.2.2) ∧ (s_.2.2.2 ≠ gb235) ∧ (gb241 ≠ s_.2.2.2) ∧ (s_.2.2.2 ≠ gb241) ∧ (gb248 ≠ s_.2.2.2) ∧ (s_.2.2.2 ≠ gb248) ∧ (Below w.heap.size w w')) ?_ ?_
          rotate_left
          · intro hCont
            refine two_ (i := 1) (j := 8) (Ni := some 96) (Nj := some 15) #[true, true, true, false, false, false, false, false, false, false, false] #[true, false, true, false, false, false, false, false, true, false, false] rfl rfl rfl rfl (two_of HT_.out (by kernel_rfl)) (by decide) (by decide) (fun K hK => ?_) (fun K hK => ?_)
            · skip
              refine goes_ Tryd.func18 (by kernel_rfl) rfl #[.agg #[.int .i64 a0_0, .bool a0_1, .slice A0_2 l0_2.length c0_2]] (by rfl) rfl rfl (by (try simp only [List.map_toArray, List.map_cons, List.map_nil]); first | done | rfl | (simp only [List.length_drop, List.length_take]; rfl)) ?_
              with_reducible refine (laws_toRow.calls kj96 a0_0 a0_1 _ _ l0_2 t270 t271 t272 _ ?side1 ?side2 A139.out).mono ?_
              (case side1 => repeat (first | exact (Kd.C_below HR0_2.out HB.out) | (with_reducible refine Kd.C_alloc ?_ _) | (with_reducible refine Kd.C_drewN ?_ _) | (with_reducible refine Kd.C_drew ?_)))
              (case side2 => exact HC0_2.out)
              rintro e w153 ⟨v273, rfl, ho0, hb⟩
              refine ⟨_, rfl, ?_⟩
              have n0_ := Aside0.mk (Kd.V_elder' (by (with_reducible repeat (first | apply Kd.V_alloc | apply Kd.V_drewN | apply Kd.V_drew)); exact HO_230002.out) (Kd.R_base ho0) hb)
              have n1_ := Aside0.mk (Kd.R_elder' (by (with_reducible repeat (first | apply Kd.R_alloc | apply Kd.R_drewN | apply Kd.R_drew)); exact HO_236002.out) (Kd.R_base ho0) hb)
              have n2_ := Aside0.mk (Kd.R_elder' (by (with_reducible repeat (first | apply Kd.R_alloc | apply Kd.R_drewN | apply Kd.R_drew)); exact HO_242002.out) (Kd.R_base ho0) hb)
              have n3_ := Aside0.mk (Kd.R_elder' (by (with_reducible repeat (first | apply Kd.R_alloc | apply Kd.R_drewN | apply Kd.R_drew)); exact HO_249002.out) (Kd.R_base ho0) hb)
              have n4_ := Aside0.mk (Kd.R_lower (Kd.R_new' (Kd.R_new' (Kd.R_new' ho0 (Kd.R_lt (by (with_reducible repeat (first | apply Kd.R_alloc | apply Kd.R_drewN | apply Kd.R_drew)); exact HO_236002.out))) (Kd.R_lt (by (with_reducible repeat (first | apply Kd.R_alloc | apply Kd.R_drewN | apply Kd.R_drew)); exact HO_242002.out))) (Kd.R_lt (by (with_reducible repeat (first | apply Kd.R_alloc | apply Kd.R_drewN | apply Kd.R_drew)); exact HO_249002.out))) (below_size (by repeat (first | (with_reducible first | exact HB.out | apply below_alloc | apply pw_below_drewN | apply below_drew1 | refine below_set ?_ GE209.out | refine below_set ?_ GE210.out | refine below_set ?_ GE229.out | refine below_set ?_ GE235.out | refine below_set ?_ GE241.out | refine below_set ?_ GE248.out) | exact HB.out))))
              have n5_ := Aside0.mk (blk_below (g := gb209) (o := .cells #[.int .i64 a0_0, .bool a0_1, .slice A0_2 l0_2.length c0_2] 32 (0, 0)) (by (with_reducible repeat (first | refine blk_drewN ?_ _ | refine blk_drew ?_ | refine blk_alloc ?_ _)); exact BK209.out) hb)
              have n6_ := Aside0.mk (blk_below (g := gb210) (o := .cells #[.int .i64 a1_0, .bool a1_1, .slice A1_2 l1_2.length c1_2] 32 (0, 0)) (by (with_reducible repeat (first | refine blk_drewN ?_ _ | refine blk_drew ?_ | refine blk_alloc ?_ _)); exact BK210.out) hb)
              have n7_ := Aside0.mk (blk_below (g := gb229) (o := .cells #[.int .i64 t223, .bool t224, .slice Ao43 t225.length co43] 34 (0, 0)) (by (with_reducible repeat (first | refine blk_drewN ?_ _ | refine blk_drew ?_ | refine blk_alloc ?_ _)); exact BK229.out) hb)
              have n8_ := Aside0.mk (blk_below (g := gb235) (o := .cells #[.int .i64 t230, .bool t231, .slice Ao53 t263.length co53] 34 (0, 0)) (by (with_reducible repeat (first | refine blk_drewN ?_ _ | refine blk_drew ?_ | refine blk_alloc ?_ _)); exact BK235.out) hb)
              have n9_ := Aside0.mk (blk_below (g := gb241) (o := .cells #[.int .i64 t236, .bool t237, .slice Ao63 t265.length co63] 34 (0, 0)) (by (with_reducible repeat (first | refine blk_drewN ?_ _ | refine blk_drew ?_ | refine blk_alloc ?_ _)); exact BK241.out) hb)
              have n10_ := Aside0.mk (blk_below (g := gb248) (o := .cells #[.int .i64 t242, .bool t243, .slice Ao73 t244.length co73] 34 (0, 0)) (by (with_reducible repeat (first | refine blk_drewN ?_ _ | refine blk_drew ?_ | refine blk_alloc ?_ _)); exact BK248.out) hb)
              have n11_ := Aside0.mk (below_step (by repeat (first | (with_reducible first | exact HB.out | apply below_alloc | apply pw_below_drewN | apply below_drew1 | refine below_set ?_ GE209.out | refine below_set ?_ GE210.out | refine below_set ?_ GE229.out | refine below_set ?_ GE235.out | refine below_set ?_ GE241.out | refine below_set ?_ GE248.out) | exact HB.out)) hb)
              clear HO_230002
              clear HO_236002
              clear HO_242002
              clear HO_249002
              clear BK209
              clear BK210
              clear BK229
              clear BK235
              clear BK241
              clear BK248
              clear HB
              have HO_230002 := n0_
              have HO_236002 := n1_
              have HO_242002 := n2_
              have HO_249002 := n3_
              have HO274 := n4_
              have BK209 := n5_
              have BK210 := n6_
              have BK229 := n7_
              have BK235 := n8_
              have BK241 := n9_
              have BK248 := n10_
              have HB := n11_
              clear n0_ n1_ n2_ n3_ n4_ n5_ n6_ n7_ n8_ n9_ n10_ n11_
              (try clear hb)
              (try clear hb2)
              (try clear hk)
              (try clear hi)
              (try clear ho0)
              refine hK.out _ _ ⟨(blk_cell BK209.out 0).trans rfl, (blk_cell BK209.out 1).trans rfl, (blk_cell BK209.out 2).trans rfl, (blk_cell BK210.out 0).trans rfl, (blk_cell BK210.out 1).trans rfl, (blk_cell BK210.out 2).trans rfl⟩ (fun hHeld => ?_)
              clear hK K
              refine norm_ (a' := ?_) ?_ ?_
              rotate_left
              · show Act.put _ (some 96) _ = _
                simp only [Act.put, List.setIfInBounds_toArray, List.set_cons_zero, List.set_cons_succ, i64_w, i32_w]
                rfl
              refine two_ (i := 3) (j := 8) (Ni := some 98) (Nj := some 15) #[true, true, true, true, false, false, false, false, false, false, false] #[true, true, true, false, false, false, false, false, true, false, false] rfl rfl rfl rfl (two_of HT_.out (by kernel_rfl)) (by decide) (by decide) (fun K hK => ?_) (fun K hK => ?_)
              · skip
                refine goes_ Tryd.func18 (by kernel_rfl) rfl #[.agg #[.int .i64 a1_0, .bool a1_1, .slice A1_2 l1_2.length c1_2]] (by rfl) rfl rfl (by (try simp only [List.map_toArray, List.map_cons, List.map_nil]); first | done | rfl | (simp only [List.length_drop, List.length_take]; rfl)) ?_
                with_reducible refine (laws_toRow.calls kj96 a1_0 a1_1 _ _ l1_2 t275 t276 t277 _ ?side1 ?side2 A140.out).mono ?_
                (case side1 => repeat (first | exact (Kd.C_below HR1_2.out HB.out) | (with_reducible refine Kd.C_alloc ?_ _) | (with_reducible refine Kd.C_drewN ?_ _) | (with_reducible refine Kd.C_drew ?_)))
                (case side2 => exact HC1_2.out)
                rintro e w154 ⟨v278, rfl, ho0, hb⟩
                refine ⟨_, rfl, ?_⟩
                have n0_ := Aside0.mk (Kd.V_elder' (by (with_reducible repeat (first | apply Kd.V_alloc | apply Kd.V_drewN | apply Kd.V_drew)); exact HO_230002.out) (Kd.R_base ho0) hb)
                have n1_ := Aside0.mk (Kd.R_elder' (by (with_reducible repeat (first | apply Kd.R_alloc | apply Kd.R_drewN | apply Kd.R_drew)); exact HO_236002.out) (Kd.R_base ho0) hb)
                have n2_ := Aside0.mk (Kd.R_elder' (by (with_reducible repeat (first | apply Kd.R_alloc | apply Kd.R_drewN | apply Kd.R_drew)); exact HO_242002.out) (Kd.R_base ho0) hb)
                have n3_ := Aside0.mk (Kd.R_elder' (by (with_reducible repeat (first | apply Kd.R_alloc | apply Kd.R_drewN | apply Kd.R_drew)); exact HO_249002.out) (Kd.R_base ho0) hb)
                have n4_ := Aside0.mk (Kd.R_elder' (by (with_reducible repeat (first | apply Kd.R_alloc | apply Kd.R_drewN | apply Kd.R_drew)); exact HO274.out) (Kd.R_base ho0) hb)
                have n5_ := Aside0.mk (Kd.R_lower (Kd.R_new' (Kd.R_new' (Kd.R_new' (Kd.R_new' ho0 (Kd.R_lt (by (with_reducible repeat (first | apply Kd.R_alloc | apply Kd.R_drewN | apply Kd.R_drew)); exact HO_236002.out))) (Kd.R_lt (by (with_reducible repeat (first | apply Kd.R_alloc | apply Kd.R_drewN | apply Kd.R_drew)); exact HO_242002.out))) (Kd.R_lt (by (with_reducible repeat (first | apply Kd.R_alloc | apply Kd.R_drewN | apply Kd.R_drew)); exact HO_249002.out))) (Kd.R_lt (by (with_reducible repeat (first | apply Kd.R_alloc | apply Kd.R_drewN | apply Kd.R_drew)); exact HO274.out))) (below_size (by repeat (first | (with_reducible first | exact HB.out | apply below_alloc | apply pw_below_drewN | apply below_drew1 | refine below_set ?_ GE209.out | refine below_set ?_ GE210.out | refine below_set ?_ GE229.out | refine below_set ?_ GE235.out | refine below_set ?_ GE241.out | refine below_set ?_ GE248.out) | exact HB.out))))
                have n6_ := Aside0.mk (blk_below (g := gb209) (o := .cells #[.int .i64 a0_0, .bool a0_1, .slice A0_2 l0_2.length c0_2] 32 (0, 0)) (by (with_reducible repeat (first | refine blk_drewN ?_ _ | refine blk_drew ?_ | refine blk_alloc ?_ _)); exact BK209.out) hb)
                have n7_ := Aside0.mk (blk_below (g := gb210) (o := .cells #[.int .i64 a1_0, .bool a1_1, .slice A1_2 l1_2.length c1_2] 32 (0, 0)) (by (with_reducible repeat (first | refine blk_drewN ?_ _ | refine blk_drew ?_ | refine blk_alloc ?_ _)); exact BK210.out) hb)
                have n8_ := Aside0.mk (blk_below (g := gb229) (o := .cells #[.int .i64 t223, .bool t224, .slice Ao43 t225.length co43] 34 (0, 0)) (by (with_reducible repeat (first | refine blk_drewN ?_ _ | refine blk_drew ?_ | refine blk_alloc ?_ _)); exact BK229.out) hb)
                have n9_ := Aside0.mk (blk_below (g := gb235) (o := .cells #[.int .i64 t230, .bool t231, .slice Ao53 t263.length co53] 34 (0, 0)) (by (with_reducible repeat (first | refine blk_drewN ?_ _ | refine blk_drew ?_ | refine blk_alloc ?_ _)); exact BK235.out) hb)
                have n10_ := Aside0.mk (blk_below (g := gb241) (o := .cells #[.int .i64 t236, .bool t237, .slice Ao63 t265.length co63] 34 (0, 0)) (by (with_reducible repeat (first | refine blk_drewN ?_ _ | refine blk_drew ?_ | refine blk_alloc ?_ _)); exact BK241.out) hb)
                have n11_ := Aside0.mk (blk_below (g := gb248) (o := .cells #[.int .i64 t242, .bool t243, .slice Ao73 t244.length co73] 34 (0, 0)) (by (with_reducible repeat (first | refine blk_drewN ?_ _ | refine blk_drew ?_ | refine blk_alloc ?_ _)); exact BK248.out) hb)
                have n12_ := Aside0.mk (below_step (by repeat (first | (with_reducible first | exact HB.out | apply below_alloc | apply pw_below_drewN | apply below_drew1 | refine below_set ?_ GE209.out | refine below_set ?_ GE210.out | refine below_set ?_ GE229.out | refine below_set ?_ GE235.out | refine below_set ?_ GE241.out | refine below_set ?_ GE248.out) | exact HB.out)) hb)
                clear HO_230002
                clear HO_236002
                clear HO_242002
                clear HO_249002
                clear HO274
                clear BK209
                clear BK210
                clear BK229
                clear BK235
                clear BK241
                clear BK248
                clear HB
                have HO_230002 := n0_
                have HO_236002 := n1_
                have HO_242002 := n2_
                have HO_249002 := n3_
                have HO274 := n4_
                have HO279 := n5_
                have BK209 := n6_
                have BK210 := n7_
                have BK229 := n8_
                have BK235 := n9_
                have BK241 := n10_
                have BK248 := n11_
                have HB := n12_
                clear n0_ n1_ n2_ n3_ n4_ n5_ n6_ n7_ n8_ n9_ n10_ n11_ n12_
                (try clear hb)
                (try clear hb2)
                (try clear hk)
                (try clear hi)
                (try clear ho0)
                obtain ⟨Ao155, co155, eo155⟩ := Kd.R_slice HO274.out
                (first | subst eo155 | (injection eo155 with f1_ f2_ f3_; have f4_ := f1_.symm; have f5_ := f3_.symm; clear f1_ f2_ f3_; subst f4_; subst f5_))
                obtain ⟨Ao156, co156, eo156⟩ := Kd.R_slice HO279.out
                (first | subst eo156 | (injection eo156 with f1_ f2_ f3_; have f4_ := f1_.symm; have f5_ := f3_.symm; clear f1_ f2_ f3_; subst f4_; subst f5_))
                refine hK.out _ _ ⟨(blk_cell BK209.out 0).trans rfl, (blk_cell BK209.out 1).trans rfl, (blk_cell BK209.out 2).trans rfl, (blk_cell BK210.out 0).trans rfl, (blk_cell BK210.out 1).trans rfl, (blk_cell BK210.out 2).trans rfl⟩ (fun hHeld => ?_)
                clear hK K
                refine norm_ (a' := ?_) ?_ ?_
                rotate_left
                · show Act.put _ (some 98) _ = _
                  simp only [Act.put, List.setIfInBounds_toArray, List.set_cons_zero, List.set_cons_succ, i64_w, i32_w]
                  rfl
                refine two_ (i := 4) (j := 8) (Ni := some 99) (Nj := some 15) #[true, true, true, true, true, false, false, false, false, false, false] #[true, true, true, true, false, false, false, false, true, false, false] rfl rfl rfl rfl (two_of HT_.out (by kernel_rfl)) (by decide) (by decide) (fun K hK => ?_) (fun K hK => ?_)
                · skip
                  refine goes_ Tryd.func24 (by kernel_rfl) rfl #[.agg #[.int .i64 t270, .bool t271, .slice Ao155 t272.length co155], .agg #[.int .i64 t275, .bool t276, .slice Ao156 t277.length co156]] (by rfl) rfl rfl (by (try simp only [List.map_toArray, List.map_cons, List.map_nil]); first | done | rfl | (simp only [List.length_drop, List.length_take]; rfl)) ?_
                  with_reducible refine (impl_JoinSeats.calls kj96 t270 t271 _ _ t272 t275 t276 _ _ t277 t280 t281 t282 t285 _ ?side1 ?side2 ?side3 ?side4 ?side5 A141.out).mono ?_
                  (case side1 => repeat (first | exact (Kd.R_reads' HO274.out).2.2 | (with_reducible refine Kd.C_alloc ?_ _) | (with_reducible refine Kd.C_drewN ?_ _) | (with_reducible refine Kd.C_drew ?_)))
                  (case side2 => exact (Kd.R_reads' HO274.out).2.1)
                  (case side3 => repeat (first | exact (Kd.R_reads' HO279.out).2.2 | (with_reducible refine Kd.C_alloc ?_ _) | (with_reducible refine Kd.C_drewN ?_ _) | (with_reducible refine Kd.C_drew ?_)))
                  (case side4 => exact (Kd.R_reads' HO279.out).2.1)
                  (case side5 => first | exact HT.out | exact XTab.below HT.out (by repeat (first | (with_reducible first | exact HB.out | apply below_alloc | apply pw_below_drewN | apply below_drew1 | refine below_set ?_ GE209.out | refine below_set ?_ GE210.out | refine below_set ?_ GE229.out | refine below_set ?_ GE235.out | refine below_set ?_ GE241.out | refine below_set ?_ GE248.out) | exact HB.out)) | (repeat (first | exact HT.out | apply XTab.drewN | apply XTab.drew | apply XTab.alloc)))
                  rintro e w157 ⟨v283, rfl, ho0, hb⟩
                  refine ⟨_, rfl, ?_⟩
                  have n0_ := Aside0.mk (Kd.V_elder' (by (with_reducible repeat (first | apply Kd.V_alloc | apply Kd.V_drewN | apply Kd.V_drew)); exact HO_230002.out) (Kd.R_base ho0) hb)
                  have n1_ := Aside0.mk (Kd.R_elder' (by (with_reducible repeat (first | apply Kd.R_alloc | apply Kd.R_drewN | apply Kd.R_drew)); exact HO_236002.out) (Kd.R_base ho0) hb)
                  have n2_ := Aside0.mk (Kd.R_elder' (by (with_reducible repeat (first | apply Kd.R_alloc | apply Kd.R_drewN | apply Kd.R_drew)); exact HO_242002.out) (Kd.R_base ho0) hb)
                  have n3_ := Aside0.mk (Kd.R_elder' (by (with_reducible repeat (first | apply Kd.R_alloc | apply Kd.R_drewN | apply Kd.R_drew)); exact HO_249002.out) (Kd.R_base ho0) hb)
                  have n4_ := Aside0.mk (Kd.R_elder' (by (with_reducible repeat (first | apply Kd.R_alloc | apply Kd.R_drewN | apply Kd.R_drew)); exact HO274.out) (Kd.R_base ho0) hb)
                  have n5_ := Aside0.mk (Kd.R_elder' (by (with_reducible repeat (first | apply Kd.R_alloc | apply Kd.R_drewN | apply Kd.R_drew)); exact HO279.out) (Kd.R_base ho0) hb)
                  have n6_ := Aside0.mk (Kd.R_lower (Kd.R_new' (Kd.R_new' (Kd.R_new' (Kd.R_new' (Kd.R_new' ho0 (Kd.R_lt (by (with_reducible repeat (first | apply Kd.R_alloc | apply Kd.R_drewN | apply Kd.R_drew)); exact HO_236002.out))) (Kd.R_lt (by (with_reducible repeat (first | apply Kd.R_alloc | apply Kd.R_drewN | apply Kd.R_drew)); exact HO_242002.out))) (Kd.R_lt (by (with_reducible repeat (first | apply Kd.R_alloc | apply Kd.R_drewN | apply Kd.R_drew)); exact HO_249002.out))) (Kd.R_lt (by (with_reducible repeat (first | apply Kd.R_alloc | apply Kd.R_drewN | apply Kd.R_drew)); exact HO274.out))) (Kd.R_lt (by (with_reducible repeat (first | apply Kd.R_alloc | apply Kd.R_drewN | apply Kd.R_drew)); exact HO279.out))) (below_size (by repeat (first | (with_reducible first | exact HB.out | apply below_alloc | apply pw_below_drewN | apply below_drew1 | refine below_set ?_ GE209.out | refine below_set ?_ GE210.out | refine below_set ?_ GE229.out | refine below_set ?_ GE235.out | refine below_set ?_ GE241.out | refine below_set ?_ GE248.out) | exact HB.out))))
                  have n7_ := Aside0.mk (blk_below (g := gb209) (o := .cells #[.int .i64 a0_0, .bool a0_1, .slice A0_2 l0_2.length c0_2] 32 (0, 0)) (by (with_reducible repeat (first | refine blk_drewN ?_ _ | refine blk_drew ?_ | refine blk_alloc ?_ _)); exact BK209.out) hb)
                  have n8_ := Aside0.mk (blk_below (g := gb210) (o := .cells #[.int .i64 a1_0, .bool a1_1, .slice A1_2 l1_2.length c1_2] 32 (0, 0)) (by (with_reducible repeat (first | refine blk_drewN ?_ _ | refine blk_drew ?_ | refine blk_alloc ?_ _)); exact BK210.out) hb)
                  have n9_ := Aside0.mk (blk_below (g := gb229) (o := .cells #[.int .i64 t223, .bool t224, .slice Ao43 t225.length co43] 34 (0, 0)) (by (with_reducible repeat (first | refine blk_drewN ?_ _ | refine blk_drew ?_ | refine blk_alloc ?_ _)); exact BK229.out) hb)
                  have n10_ := Aside0.mk (blk_below (g := gb235) (o := .cells #[.int .i64 t230, .bool t231, .slice Ao53 t263.length co53] 34 (0, 0)) (by (with_reducible repeat (first | refine blk_drewN ?_ _ | refine blk_drew ?_ | refine blk_alloc ?_ _)); exact BK235.out) hb)
                  have n11_ := Aside0.mk (blk_below (g := gb241) (o := .cells #[.int .i64 t236, .bool t237, .slice Ao63 t265.length co63] 34 (0, 0)) (by (with_reducible repeat (first | refine blk_drewN ?_ _ | refine blk_drew ?_ | refine blk_alloc ?_ _)); exact BK241.out) hb)
                  have n12_ := Aside0.mk (blk_below (g := gb248) (o := .cells #[.int .i64 t242, .bool t243, .slice Ao73 t244.length co73] 34 (0, 0)) (by (with_reducible repeat (first | refine blk_drewN ?_ _ | refine blk_drew ?_ | refine blk_alloc ?_ _)); exact BK248.out) hb)
                  have n13_ := Aside0.mk (below_step (by repeat (first | (with_reducible first | exact HB.out | apply below_alloc | apply pw_below_drewN | apply below_drew1 | refine below_set ?_ GE209.out | refine below_set ?_ GE210.out | refine below_set ?_ GE229.out | refine below_set ?_ GE235.out | refine below_set ?_ GE241.out | refine below_set ?_ GE248.out) | exact HB.out)) hb)
                  clear HO_230002
                  clear HO_236002
                  clear HO_242002
                  clear HO_249002
                  clear HO274
                  clear HO279
                  clear BK209
                  clear BK210
                  clear BK229
                  clear BK235
                  clear BK241
                  clear BK248
                  clear HB
                  have HO_230002 := n0_
                  have HO_236002 := n1_
                  have HO_242002 := n2_
                  have HO_249002 := n3_
                  have HO274 := n4_
                  have HO279 := n5_
                  have HO284 := n6_
                  have BK209 := n7_
                  have BK210 := n8_
                  have BK229 := n9_
                  have BK235 := n10_
                  have BK241 := n11_
                  have BK248 := n12_
                  have HB := n13_
                  clear n0_ n1_ n2_ n3_ n4_ n5_ n6_ n7_ n8_ n9_ n10_ n11_ n12_ n13_
                  (try clear hb)
                  (try clear hb2)
                  (try clear hk)
                  (try clear hi)
                  (try clear ho0)
                  refine hK.out _ _ ⟨(blk_cell BK209.out 0).trans rfl, (blk_cell BK209.out 1).trans rfl, (blk_cell BK209.out 2).trans rfl, (blk_cell BK210.out 0).trans rfl, (blk_cell BK210.out 1).trans rfl, (blk_cell BK210.out 2).trans rfl⟩ (fun hHeld => ?_)
                  clear hK K
                  refine norm_ (a' := ?_) ?_ ?_
                  rotate_left
                  · show Act.put _ (some 99) _ = _
                    simp only [Act.put, List.setIfInBounds_toArray, List.set_cons_zero, List.set_cons_succ, i64_w, i32_w]
                    rfl
                  refine pure_ (i := 5) (N := some 94) (v := ?_) (a' := ?_) #[true, true, true, true, true, true, false, false, false, false, false] rfl rfl (any_of HT_.out (by kernel_rfl)) (fun _ _ _ h => h) (Or.inl ⟨by rfl, ?_⟩) ?_ ?_
                  rotate_left
                  · intro w'
                    go_simp
                    with_reducible rfl
                  rotate_left
                  · simp only [Act.put, List.setIfInBounds_toArray, List.set_cons_zero, List.set_cons_succ, i64_w, i32_w]
                    rfl
                  refine pure_ (i := 6) (N := some 100) (v := ?_) (a' := ?_) #[true, true, true, true, true, true, true, false, false, false, false] rfl rfl (any_of HT_.out (by kernel_rfl)) (fun _ _ _ h => h) (Or.inl ⟨by rfl, ?_⟩) ?_ ?_
                  rotate_left
                  · intro w'
                    go_simp
                    with_reducible rfl
                  rotate_left
                  · simp only [Act.put, List.setIfInBounds_toArray, List.set_cons_zero, List.set_cons_succ, i64_w, i32_w]
                    rfl
                  refine pure_ (i := 7) (N := some 101) (v := ?_) (a' := ?_) #[true, true, true, true, true, true, true, true, false, false, false] rfl rfl (any_of HT_.out (by kernel_rfl)) (fun _ _ _ h => h) (Or.inl ⟨by rfl, ?_⟩) ?_ ?_
                  rotate_left
                  · intro w'
                    go_simp
                    with_reducible rfl
                  rotate_left
                  · simp only [Act.put, List.setIfInBounds_toArray, List.set_cons_zero, List.set_cons_succ, i64_w, i32_w]
                    rfl
                  refine one_ (i := 8) (N := some 15) #[true, true, true, true, true, true, true, true, true, false, false] rfl rfl (one_of HT_.out (by kernel_rfl)) (by decide) (fun K hK => ?_)
                  refine box_step ?hg (N := 15) ?hd (cs := #[.int .i64 0, .bool false, .slice none 0 0]) (t := 34) ?hr ?_; (case hd => rfl); (case hg => rfl); (case hr => first | (go_simp; done) | (go_simp; rfl))
                  intro gb286 hg w158 hbox hb
                  have n0_ := Aside0.mk (Kd.V_below (Kd.V_elderB (by (with_reducible repeat (first | apply Kd.V_alloc | apply Kd.V_drewN | apply Kd.V_drew)); exact HO_230002.out) gb286 (Nat.le_of_eq hg.symm)) hb)
                  have n1_ := Aside0.mk (Kd.R_below (by (with_reducible repeat (first | apply Kd.R_alloc | apply Kd.R_drewN | apply Kd.R_drew)); exact HO_236002.out) hb)
                  have n2_ := Aside0.mk (Kd.R_below (by (with_reducible repeat (first | apply Kd.R_alloc | apply Kd.R_drewN | apply Kd.R_drew)); exact HO_242002.out) hb)
                  have n3_ := Aside0.mk (Kd.R_below (by (with_reducible repeat (first | apply Kd.R_alloc | apply Kd.R_drewN | apply Kd.R_drew)); exact HO_249002.out) hb)
                  have n4_ := Aside0.mk (Kd.R_below (by (with_reducible repeat (first | apply Kd.R_alloc | apply Kd.R_drewN | apply Kd.R_drew)); exact HO274.out) hb)
                  have n5_ := Aside0.mk (Kd.R_below (by (with_reducible repeat (first | apply Kd.R_alloc | apply Kd.R_drewN | apply Kd.R_drew)); exact HO279.out) hb)
                  have n6_ := Aside0.mk (Kd.R_below (by (with_reducible repeat (first | apply Kd.R_alloc | apply Kd.R_drewN | apply Kd.R_drew)); exact HO284.out) hb)
                  have n7_ := Aside0.mk (blk_below (g := gb209) (o := .cells #[.int .i64 a0_0, .bool a0_1, .slice A0_2 l0_2.length c0_2] 32 (0, 0)) (by (with_reducible repeat (first | refine blk_drewN ?_ _ | refine blk_drew ?_ | refine blk_alloc ?_ _)); exact BK209.out) hb)
                  have n8_ := Aside0.mk (blk_below (g := gb210) (o := .cells #[.int .i64 a1_0, .bool a1_1, .slice A1_2 l1_2.length c1_2] 32 (0, 0)) (by (with_reducible repeat (first | refine blk_drewN ?_ _ | refine blk_drew ?_ | refine blk_alloc ?_ _)); exact BK210.out) hb)
                  have n9_ := Aside0.mk (blk_below (g := gb229) (o := .cells #[.int .i64 t223, .bool t224, .slice Ao43 t225.length co43] 34 (0, 0)) (by (with_reducible repeat (first | refine blk_drewN ?_ _ | refine blk_drew ?_ | refine blk_alloc ?_ _)); exact BK229.out) hb)
                  have n10_ := Aside0.mk (blk_below (g := gb235) (o := .cells #[.int .i64 t230, .bool t231, .slice Ao53 t263.length co53] 34 (0, 0)) (by (with_reducible repeat (first | refine blk_drewN ?_ _ | refine blk_drew ?_ | refine blk_alloc ?_ _)); exact BK235.out) hb)
                  have n11_ := Aside0.mk (blk_below (g := gb241) (o := .cells #[.int .i64 t236, .bool t237, .slice Ao63 t265.length co63] 34 (0, 0)) (by (with_reducible repeat (first | refine blk_drewN ?_ _ | refine blk_drew ?_ | refine blk_alloc ?_ _)); exact BK241.out) hb)
                  have n12_ := Aside0.mk (blk_below (g := gb248) (o := .cells #[.int .i64 t242, .bool t243, .slice Ao73 t244.length co73] 34 (0, 0)) (by (with_reducible repeat (first | refine blk_drewN ?_ _ | refine blk_drew ?_ | refine blk_alloc ?_ _)); exact BK248.out) hb)
                  have n13_ := Aside0.mk (below_step (by repeat (first | (with_reducible first | exact HB.out | apply below_alloc | apply pw_below_drewN | apply below_drew1 | refine below_set ?_ GE209.out | refine below_set ?_ GE210.out | refine below_set ?_ GE229.out | refine below_set ?_ GE235.out | refine below_set ?_ GE241.out | refine below_set ?_ GE248.out) | exact HB.out)) hb)
                  have n14_ := Aside0.mk (hbox)
                  have n15_ := Aside0.mk ((by rw [hg]; exact (below_size (by repeat (first | (with_reducible first | exact HB.out | apply below_alloc | apply pw_below_drewN | apply below_drew1 | refine below_set ?_ GE209.out | refine below_set ?_ GE210.out | refine below_set ?_ GE229.out | refine below_set ?_ GE235.out | refine below_set ?_ GE241.out | refine below_set ?_ GE248.out) | exact HB.out))) : w.heap.size ≤ gb286))
                  have n16_ := Aside0.mk ((by rw [hg]; exact (below_size (by repeat (first | (with_reducible first | exact HB.out | apply below_alloc | apply pw_below_drewN | apply below_drew1 | refine below_set ?_ GE209.out | refine below_set ?_ GE210.out | refine below_set ?_ GE229.out | refine below_set ?_ GE235.out | refine below_set ?_ GE241.out | refine below_set ?_ GE248.out) | exact HB.out))) : w.heap.size ≤ gb286))
                  have n17_ := Aside0.mk ((by rw [hg]; exact Nat.ne_of_lt (blk_lt (g := gb209) (o := .cells #[.int .i64 a0_0, .bool a0_1, .slice A0_2 l0_2.length c0_2] 32 (0, 0)) (by (with_reducible repeat (first | refine blk_drewN ?_ _ | refine blk_drew ?_ | refine blk_alloc ?_ _)); exact BK209.out)) : gb209 ≠ gb286))
                  have n18_ := Aside0.mk ((by rw [hg]; exact Nat.ne_of_gt (blk_lt (g := gb209) (o := .cells #[.int .i64 a0_0, .bool a0_1, .slice A0_2 l0_2.length c0_2] 32 (0, 0)) (by (with_reducible repeat (first | refine blk_drewN ?_ _ | refine blk_drew ?_ | refine blk_alloc ?_ _)); exact BK209.out)) : gb286 ≠ gb209))
                  have n19_ := Aside0.mk ((by rw [hg]; exact Nat.ne_of_lt (blk_lt (g := gb210) (o := .cells #[.int .i64 a1_0, .bool a1_1, .slice A1_2 l1_2.length c1_2] 32 (0, 0)) (by (with_reducible repeat (first | refine blk_drewN ?_ _ | refine blk_drew ?_ | refine blk_alloc ?_ _)); exact BK210.out)) : gb210 ≠ gb286))
                  have n20_ := Aside0.mk ((by rw [hg]; exact Nat.ne_of_gt (blk_lt (g := gb210) (o := .cells #[.int .i64 a1_0, .bool a1_1, .slice A1_2 l1_2.length c1_2] 32 (0, 0)) (by (with_reducible repeat (first | refine blk_drewN ?_ _ | refine blk_drew ?_ | refine blk_alloc ?_ _)); exact BK210.out)) : gb286 ≠ gb210))
                  have n21_ := Aside0.mk ((by rw [hg]; exact Nat.ne_of_lt (blk_lt (g := gb229) (o := .cells #[.int .i64 t223, .bool t224, .slice Ao43 t225.length co43] 34 (0, 0)) (by (with_reducible repeat (first | refine blk_drewN ?_ _ | refine blk_drew ?_ | refine blk_alloc ?_ _)); exact BK229.out)) : gb229 ≠ gb286))
                  have n22_ := Aside0.mk ((by rw [hg]; exact Nat.ne_of_gt (blk_lt (g := gb229) (o := .cells #[.int .i64 t223, .bool t224, .slice Ao43 t225.length co43] 34 (0, 0)) (by (with_reducible repeat (first | refine blk_drewN ?_ _ | refine blk_drew ?_ | refine blk_alloc ?_ _)); exact BK229.out)) : gb286 ≠ gb229))
                  have n23_ := Aside0.mk ((by rw [hg]; exact Nat.ne_of_lt (blk_lt (g := gb235) (o := .cells #[.int .i64 t230, .bool t231, .slice Ao53 t263.length co53] 34 (0, 0)) (by (with_reducible repeat (first | refine blk_drewN ?_ _ | refine blk_drew ?_ | refine blk_alloc ?_ _)); exact BK235.out)) : gb235 ≠ gb286))
                  have n24_ := Aside0.mk ((by rw [hg]; exact Nat.ne_of_gt (blk_lt (g := gb235) (o := .cells #[.int .i64 t230, .bool t231, .slice Ao53 t263.length co53] 34 (0, 0)) (by (with_reducible repeat (first | refine blk_drewN ?_ _ | refine blk_drew ?_ | refine blk_alloc ?_ _)); exact BK235.out)) : gb286 ≠ gb235))
                  have n25_ := Aside0.mk ((by rw [hg]; exact Nat.ne_of_lt (blk_lt (g := gb241) (o := .cells #[.int .i64 t236, .bool t237, .slice Ao63 t265.length co63] 34 (0, 0)) (by (with_reducible repeat (first | refine blk_drewN ?_ _ | refine blk_drew ?_ | refine blk_alloc ?_ _)); exact BK241.out)) : gb241 ≠ gb286))
                  have n26_ := Aside0.mk ((by rw [hg]; exact Nat.ne_of_gt (blk_lt (g := gb241) (o := .cells #[.int .i64 t236, .bool t237, .slice Ao63 t265.length co63] 34 (0, 0)) (by (with_reducible repeat (first | refine blk_drewN ?_ _ | refine blk_drew ?_ | refine blk_alloc ?_ _)); exact BK241.out)) : gb286 ≠ gb241))
                  have n27_ := Aside0.mk ((by rw [hg]; exact Nat.ne_of_lt (blk_lt (g := gb248) (o := .cells #[.int .i64 t242, .bool t243, .slice Ao73 t244.length co73] 34 (0, 0)) (by (with_reducible repeat (first | refine blk_drewN ?_ _ | refine blk_drew ?_ | refine blk_alloc ?_ _)); exact BK248.out)) : gb248 ≠ gb286))
                  have n28_ := Aside0.mk ((by rw [hg]; exact Nat.ne_of_gt (blk_lt (g := gb248) (o := .cells #[.int .i64 t242, .bool t243, .slice Ao73 t244.length co73] 34 (0, 0)) (by (with_reducible repeat (first | refine blk_drewN ?_ _ | refine blk_drew ?_ | refine blk_alloc ?_ _)); exact BK248.out)) : gb286 ≠ gb248))
                  clear HO_230002
                  clear HO_236002
                  clear HO_242002
                  clear HO_249002
                  clear HO274
                  clear HO279
                  clear HO284
                  clear BK209
                  clear BK210
                  clear BK229
                  clear BK235
                  clear BK241
                  clear BK248
                  clear HB
                  have HO_230002 := n0_
                  have HO_236002 := n1_
                  have HO_242002 := n2_
                  have HO_249002 := n3_
                  have HO274 := n4_
                  have HO279 := n5_
                  have HO284 := n6_
                  have BK209 := n7_
                  have BK210 := n8_
                  have BK229 := n9_
                  have BK235 := n10_
                  have BK241 := n11_
                  have BK248 := n12_
                  have HB := n13_
                  have BK286 := n14_
                  have GW286 := n15_
                  have GE286 := n16_
                  have NB209_286 := n17_
                  have NB286_209 := n18_
                  have NB210_286 := n19_
                  have NB286_210 := n20_
                  have NB229_286 := n21_
                  have NB286_229 := n22_
                  have NB235_286 := n23_
                  have NB286_235 := n24_
                  have NB241_286 := n25_
                  have NB286_241 := n26_
                  have NB248_286 := n27_
                  have NB286_248 := n28_
                  clear n0_ n1_ n2_ n3_ n4_ n5_ n6_ n7_ n8_ n9_ n10_ n11_ n12_ n13_ n14_ n15_ n16_ n17_ n18_ n19_ n20_ n21_ n22_ n23_ n24_ n25_ n26_ n27_ n28_
                  clear hb hbox hg
                  refine hK.out _ _ ⟨(blk_cell BK209.out 0).trans rfl, (blk_cell BK209.out 1).trans rfl, (blk_cell BK209.out 2).trans rfl, (blk_cell BK210.out 0).trans rfl, (blk_cell BK210.out 1).trans rfl, (blk_cell BK210.out 2).trans rfl⟩ (fun hHeld => ?_)
                  clear hK K
                  refine norm_ (a' := ?_) ?_ ?_
                  rotate_left
                  · show Act.put _ (some 15) _ = _
                    simp only [Act.put, List.setIfInBounds_toArray, List.set_cons_zero, List.set_cons_succ, i64_w, i32_w]
                    rfl
                  exact norm_ (by simp only [putAll, Act.put, List.setIfInBounds_toArray, List.set_cons_zero, List.set_cons_succ]) (hCont (.slice Ao155 t272.length co155, .slice Ao156 t277.length co156, v283, gb286) _ ⟨hHeld, (by (with_reducible repeat (first | apply Kd.R_alloc | apply Kd.R_drewN | apply Kd.R_drew)); exact Kd.R_mono HO274.out (fun _ hk => ⟨hk.1.2, ⟨hk.2, ⟨hk.1.1.1.1.2, ⟨hk.1.1.1.2, hk.1.1.2⟩⟩⟩⟩)), (by (with_reducible repeat (first | apply Kd.R_alloc | apply Kd.R_drewN | apply Kd.R_drew)); exact Kd.R_mono HO279.out (fun _ hk => ⟨hk.1.2, ⟨hk.2, ⟨hk.1.1.1.1.2, ⟨hk.1.1.1.2, hk.1.1.2⟩⟩⟩⟩)), (by (with_reducible repeat (first | apply Kd.R_alloc | apply Kd.R_drewN | apply Kd.R_drew)); exact Kd.R_mono HO284.out (fun _ hk => ⟨hk.1.2, ⟨hk.2, ⟨hk.1.1.1.1.2, ⟨hk.1.1.1.2, hk.1.1.2⟩⟩⟩⟩)), (by (with_reducible repeat (first | apply Kd.V_alloc | apply Kd.V_drewN | apply Kd.V_drew)); exact Kd.V_mono HO_230002.out (fun _ hk => ⟨hk.1.1.1.2, ⟨hk.1.1.2, ⟨hk.1.2, ⟨hk.1.1.1.1.1, ⟨hk.1.1.1.1.2.1, ⟨hk.1.1.1.1.2.2.1, ⟨hk.1.1.1.1.2.2.2.1, ⟨hk.1.1.1.1.2.2.2.2.1, ⟨hk.1.1.1.1.2.2.2.2.2.1, ⟨hk.1.1.1.1.2.2.2.2.2.2.1, ⟨hk.1.1.1.1.2.2.2.2.2.2.2.1, ⟨hk.1.1.1.1.2.2.2.2.2.2.2.2, hk.2⟩⟩⟩⟩⟩⟩⟩⟩⟩⟩⟩⟩)), (by (with_reducible repeat (first | apply Kd.R_alloc | apply Kd.R_drewN | apply Kd.R_drew)); exact Kd.R_mono HO_236002.out (fun _ hk => ⟨hk.1.1.2, ⟨hk.1.2, ⟨hk.2, ⟨hk.1.1.1.1, hk.1.1.1.2⟩⟩⟩⟩)), (by (with_reducible repeat (first | apply Kd.R_alloc | apply Kd.R_drewN | apply Kd.R_drew)); exact Kd.R_mono HO_242002.out (fun _ hk => ⟨hk.1.1.2, ⟨hk.1.2, ⟨hk.2, ⟨hk.1.1.1.1, hk.1.1.1.2⟩⟩⟩⟩)), (by (with_reducible repeat (first | apply Kd.R_alloc | apply Kd.R_drewN | apply Kd.R_drew)); exact Kd.R_mono HO_249002.out (fun _ hk => ⟨hk.1.1.2, ⟨hk.1.2, ⟨hk.2, ⟨hk.1.1.1.1, hk.1.1.1.2⟩⟩⟩⟩)), (by (with_reducible repeat (first | refine blk_drewN ?_ _ | refine blk_drew ?_ | refine blk_alloc ?_ _)); exact BK209.out), (by (with_reducible repeat (first | refine blk_drewN ?_ _ | refine blk_drew ?_ | refine blk_alloc ?_ _)); exact BK210.out), (by (with_reducible repeat (first | refine blk_drewN ?_ _ | refine blk_drew ?_ | refine blk_alloc ?_ _)); exact BK229.out), (by (with_reducible repeat (first | refine blk_drewN ?_ _ | refine blk_drew ?_ | refine blk_alloc ?_ _)); exact BK235.out), (by (with_reducible repeat (first | refine blk_drewN ?_ _ | refine blk_drew ?_ | refine blk_alloc ?_ _)); exact BK241.out), (by (with_reducible repeat (first | refine blk_drewN ?_ _ | refine blk_drew ?_ | refine blk_alloc ?_ _)); exact BK248.out), (by (with_reducible repeat (first | refine blk_drewN ?_ _ | refine blk_drew ?_ | refine blk_alloc ?_ _)); exact BK286.out), GW286.out, GE286.out, NB209_286.out, NB286_209.out, NB210_286.out, NB286_210.out, NB229_286.out, NB286_229.out, NB235_286.out, NB286_235.out, NB241_286.out, NB286_241.out, NB248_286.out, NB286_248.out, (by repeat (first | (with_reducible first | exact HB.out | apply below_alloc | apply pw_below_drewN | apply below_drew1 | refine below_set ?_ GE209.out | refine below_set ?_ GE210.out | refine below_set ?_ GE229.out | refine below_set ?_ GE235.out | refine below_set ?_ GE241.out | refine below_set ?_ GE248.out | refine below_set ?_ GE286.out) | exact HB.out))⟩)
                · skip
                  refine box_step ?hg (N := 15) ?hd (cs := #[.int .i64 0, .bool false, .slice none 0 0]) (t := 34) ?hr ?_; (case hd => rfl); (case hg => rfl); (case hr => first | (go_simp; done) | (go_simp; rfl))
                  intro gb286 hg w155 hbox hb
                  have n0_ := Aside0.mk (Kd.V_below (Kd.V_elderB (by (with_reducible repeat (first | apply Kd.V_alloc | apply Kd.V_drewN | apply Kd.V_drew)); exact HO_230002.out) gb286 (Nat.le_of_eq hg.symm)) hb)
                  have n1_ := Aside0.mk (Kd.R_below (by (with_reducible repeat (first | apply Kd.R_alloc | apply Kd.R_drewN | apply Kd.R_drew)); exact HO_236002.out) hb)
                  have n2_ := Aside0.mk (Kd.R_below (by (with_reducible repeat (first | apply Kd.R_alloc | apply Kd.R_drewN | apply Kd.R_drew)); exact HO_242002.out) hb)
                  have n3_ := Aside0.mk (Kd.R_below (by (with_reducible repeat (first | apply Kd.R_alloc | apply Kd.R_drewN | apply Kd.R_drew)); exact HO_249002.out) hb)
                  have n4_ := Aside0.mk (Kd.R_below (by (with_reducible repeat (first | apply Kd.R_alloc | apply Kd.R_drewN | apply Kd.R_drew)); exact HO274.out) hb)
                  have n5_ := Aside0.mk (Kd.R_below (by (with_reducible repeat (first | apply Kd.R_alloc | apply Kd.R_drewN | apply Kd.R_drew)); exact HO279.out) hb)
                  have n6_ := Aside0.mk (blk_below (g := gb209) (o := .cells #[.int .i64 a0_0, .bool a0_1, .slice A0_2 l0_2.length c0_2] 32 (0, 0)) (by (with_reducible repeat (first | refine blk_drewN ?_ _ | refine blk_drew ?_ | refine blk_alloc ?_ _)); exact BK209.out) hb)
                  have n7_ := Aside0.mk (blk_below (g := gb210) (o := .cells #[.int .i64 a1_0, .bool a1_1, .slice A1_2 l1_2.length c1_2] 32 (0, 0)) (by (with_reducible repeat (first | refine blk_drewN ?_ _ | refine blk_drew ?_ | refine blk_alloc ?_ _)); exact BK210.out) hb)
                  have n8_ := Aside0.mk (blk_below (g := gb229) (o := .cells #[.int .i64 t223, .bool t224, .slice Ao43 t225.length co43] 34 (0, 0)) (by (with_reducible repeat (first | refine blk_drewN ?_ _ | refine blk_drew ?_ | refine blk_alloc ?_ _)); exact BK229.out) hb)
                  have n9_ := Aside0.mk (blk_below (g := gb235) (o := .cells #[.int .i64 t230, .bool t231, .slice Ao53 t263.length co53] 34 (0, 0)) (by (with_reducible repeat (first | refine blk_drewN ?_ _ | refine blk_drew ?_ | refine blk_alloc ?_ _)); exact BK235.out) hb)
                  have n10_ := Aside0.mk (blk_below (g := gb241) (o := .cells #[.int .i64 t236, .bool t237, .slice Ao63 t265.length co63] 34 (0, 0)) (by (with_reducible repeat (first | refine blk_drewN ?_ _ | refine blk_drew ?_ | refine blk_alloc ?_ _)); exact BK241.out) hb)
                  have n11_ := Aside0.mk (blk_below (g := gb248) (o := .cells #[.int .i64 t242, .bool t243, .slice Ao73 t244.length co73] 34 (0, 0)) (by (with_reducible repeat (first | refine blk_drewN ?_ _ | refine blk_drew ?_ | refine blk_alloc ?_ _)); exact BK248.out) hb)
                  have n12_ := Aside0.mk (below_step (by repeat (first | (with_reducible first | exact HB.out | apply below_alloc | apply pw_below_drewN | apply below_drew1 | refine below_set ?_ GE209.out | refine below_set ?_ GE210.out | refine below_set ?_ GE229.out | refine below_set ?_ GE235.out | refine below_set ?_ GE241.out | refine below_set ?_ GE248.out) | exact HB.out)) hb)
                  have n13_ := Aside0.mk (hbox)
                  have n14_ := Aside0.mk ((by rw [hg]; exact (below_size (by repeat (first | (with_reducible first | exact HB.out | apply below_alloc | apply pw_below_drewN | apply below_drew1 | refine below_set ?_ GE209.out | refine below_set ?_ GE210.out | refine below_set ?_ GE229.out | refine below_set ?_ GE235.out | refine below_set ?_ GE241.out | refine below_set ?_ GE248.out) | exact HB.out))) : w.heap.size ≤ gb286))
                  have n15_ := Aside0.mk ((by rw [hg]; exact (below_size (by repeat (first | (with_reducible first | exact HB.out | apply below_alloc | apply pw_below_drewN | apply below_drew1 | refine below_set ?_ GE209.out | refine below_set ?_ GE210.out | refine below_set ?_ GE229.out | refine below_set ?_ GE235.out | refine below_set ?_ GE241.out | refine below_set ?_ GE248.out) | exact HB.out))) : w.heap.size ≤ gb286))
                  have n16_ := Aside0.mk ((by rw [hg]; exact Nat.ne_of_lt (blk_lt (g := gb209) (o := .cells #[.int .i64 a0_0, .bool a0_1, .slice A0_2 l0_2.length c0_2] 32 (0, 0)) (by (with_reducible repeat (first | refine blk_drewN ?_ _ | refine blk_drew ?_ | refine blk_alloc ?_ _)); exact BK209.out)) : gb209 ≠ gb286))
                  have n17_ := Aside0.mk ((by rw [hg]; exact Nat.ne_of_gt (blk_lt (g := gb209) (o := .cells #[.int .i64 a0_0, .bool a0_1, .slice A0_2 l0_2.length c0_2] 32 (0, 0)) (by (with_reducible repeat (first | refine blk_drewN ?_ _ | refine blk_drew ?_ | refine blk_alloc ?_ _)); exact BK209.out)) : gb286 ≠ gb209))
                  have n18_ := Aside0.mk ((by rw [hg]; exact Nat.ne_of_lt (blk_lt (g := gb210) (o := .cells #[.int .i64 a1_0, .bool a1_1, .slice A1_2 l1_2.length c1_2] 32 (0, 0)) (by (with_reducible repeat (first | refine blk_drewN ?_ _ | refine blk_drew ?_ | refine blk_alloc ?_ _)); exact BK210.out)) : gb210 ≠ gb286))
                  have n19_ := Aside0.mk ((by rw [hg]; exact Nat.ne_of_gt (blk_lt (g := gb210) (o := .cells #[.int .i64 a1_0, .bool a1_1, .slice A1_2 l1_2.length c1_2] 32 (0, 0)) (by (with_reducible repeat (first | refine blk_drewN ?_ _ | refine blk_drew ?_ | refine blk_alloc ?_ _)); exact BK210.out)) : gb286 ≠ gb210))
                  have n20_ := Aside0.mk ((by rw [hg]; exact Nat.ne_of_lt (blk_lt (g := gb229) (o := .cells #[.int .i64 t223, .bool t224, .slice Ao43 t225.length co43] 34 (0, 0)) (by (with_reducible repeat (first | refine blk_drewN ?_ _ | refine blk_drew ?_ | refine blk_alloc ?_ _)); exact BK229.out)) : gb229 ≠ gb286))
                  have n21_ := Aside0.mk ((by rw [hg]; exact Nat.ne_of_gt (blk_lt (g := gb229) (o := .cells #[.int .i64 t223, .bool t224, .slice Ao43 t225.length co43] 34 (0, 0)) (by (with_reducible repeat (first | refine blk_drewN ?_ _ | refine blk_drew ?_ | refine blk_alloc ?_ _)); exact BK229.out)) : gb286 ≠ gb229))
                  have n22_ := Aside0.mk ((by rw [hg]; exact Nat.ne_of_lt (blk_lt (g := gb235) (o := .cells #[.int .i64 t230, .bool t231, .slice Ao53 t263.length co53] 34 (0, 0)) (by (with_reducible repeat (first | refine blk_drewN ?_ _ | refine blk_drew ?_ | refine blk_alloc ?_ _)); exact BK235.out)) : gb235 ≠ gb286))
                  have n23_ := Aside0.mk ((by rw [hg]; exact Nat.ne_of_gt (blk_lt (g := gb235) (o := .cells #[.int .i64 t230, .bool t231, .slice Ao53 t263.length co53] 34 (0, 0)) (by (with_reducible repeat (first | refine blk_drewN ?_ _ | refine blk_drew ?_ | refine blk_alloc ?_ _)); exact BK235.out)) : gb286 ≠ gb235))
                  have n24_ := Aside0.mk ((by rw [hg]; exact Nat.ne_of_lt (blk_lt (g := gb241) (o := .cells #[.int .i64 t236, .bool t237, .slice Ao63 t265.length co63] 34 (0, 0)) (by (with_reducible repeat (first | refine blk_drewN ?_ _ | refine blk_drew ?_ | refine blk_alloc ?_ _)); exact BK241.out)) : gb241 ≠ gb286))
                  have n25_ := Aside0.mk ((by rw [hg]; exact Nat.ne_of_gt (blk_lt (g := gb241) (o := .cells #[.int .i64 t236, .bool t237, .slice Ao63 t265.length co63] 34 (0, 0)) (by (with_reducible repeat (first | refine blk_drewN ?_ _ | refine blk_drew ?_ | refine blk_alloc ?_ _)); exact BK241.out)) : gb286 ≠ gb241))
                  have n26_ := Aside0.mk ((by rw [hg]; exact Nat.ne_of_lt (blk_lt (g := gb248) (o := .cells #[.int .i64 t242, .bool t243, .slice Ao73 t244.length co73] 34 (0, 0)) (by (with_reducible repeat (first | refine blk_drewN ?_ _ | refine blk_drew ?_ | refine blk_alloc ?_ _)); exact BK248.out)) : gb248 ≠ gb286))
                  have n27_ := Aside0.mk ((by rw [hg]; exact Nat.ne_of_gt (blk_lt (g := gb248) (o := .cells #[.int .i64 t242, .bool t243, .slice Ao73 t244.length co73] 34 (0, 0)) (by (with_reducible repeat (first | refine blk_drewN ?_ _ | refine blk_drew ?_ | refine blk_alloc ?_ _)); exact BK248.out)) : gb286 ≠ gb248))
                  clear HO_230002
                  clear HO_236002
                  clear HO_242002
                  clear HO_249002
                  clear HO274
                  clear HO279
                  clear BK209
                  clear BK210
                  clear BK229
                  clear BK235
                  clear BK241
                  clear BK248
                  clear HB
                  have HO_230002 := n0_
                  have HO_236002 := n1_
                  have HO_242002 := n2_
                  have HO_249002 := n3_
                  have HO274 := n4_
                  have HO279 := n5_
                  have BK209 := n6_
                  have BK210 := n7_
                  have BK229 := n8_
                  have BK235 := n9_
                  have BK241 := n10_
                  have BK248 := n11_
                  have HB := n12_
                  have BK286 := n13_
                  have GW286 := n14_
                  have GE286 := n15_
                  have NB209_286 := n16_
                  have NB286_209 := n17_
                  have NB210_286 := n18_
                  have NB286_210 := n19_
                  have NB229_286 := n20_
                  have NB286_229 := n21_
                  have NB235_286 := n22_
                  have NB286_235 := n23_
                  have NB241_286 := n24_
                  have NB286_241 := n25_
                  have NB248_286 := n26_
                  have NB286_248 := n27_
                  clear n0_ n1_ n2_ n3_ n4_ n5_ n6_ n7_ n8_ n9_ n10_ n11_ n12_ n13_ n14_ n15_ n16_ n17_ n18_ n19_ n20_ n21_ n22_ n23_ n24_ n25_ n26_ n27_
                  clear hb hbox hg
                  obtain ⟨Ao156, co156, eo156⟩ := Kd.R_slice HO274.out
                  (first | subst eo156 | (injection eo156 with f1_ f2_ f3_; have f4_ := f1_.symm; have f5_ := f3_.symm; clear f1_ f2_ f3_; subst f4_; subst f5_))
                  obtain ⟨Ao157, co157, eo157⟩ := Kd.R_slice HO279.out
                  (first | subst eo157 | (injection eo157 with f1_ f2_ f3_; have f4_ := f1_.symm; have f5_ := f3_.symm; clear f1_ f2_ f3_; subst f4_; subst f5_))
                  refine hK.out _ _ ⟨(blk_cell BK209.out 0).trans rfl, (blk_cell BK209.out 1).trans rfl, (blk_cell BK209.out 2).trans rfl, (blk_cell BK210.out 0).trans rfl, (blk_cell BK210.out 1).trans rfl, (blk_cell BK210.out 2).trans rfl⟩ (fun hHeld => ?_)
                  clear hK K
                  refine norm_ (a' := ?_) ?_ ?_
                  rotate_left
                  · show Act.put _ (some 15) _ = _
                    simp only [Act.put, List.setIfInBounds_toArray, List.set_cons_zero, List.set_cons_succ, i64_w, i32_w]
                    rfl
                  refine one_ (i := 4) (N := some 99) #[true, true, true, true, true, false, false, false, true, false, false] rfl rfl (one_of HT_.out (by kernel_rfl)) (by decide) (fun K hK => ?_)
                  refine goes_ Tryd.func24 (by kernel_rfl) rfl #[.agg #[.int .i64 t270, .bool t271, .slice Ao156 t272.length co156], .agg #[.int .i64 t275, .bool t276, .slice Ao157 t277.length co157]] (by rfl) rfl rfl (by (try simp only [List.map_toArray, List.map_cons, List.map_nil]); first | done | rfl | (simp only [List.length_drop, List.length_take]; rfl)) ?_
                  with_reducible refine (impl_JoinSeats.calls kj96 t270 t271 _ _ t272 t275 t276 _ _ t277 t280 t281 t282 t285 _ ?side1 ?side2 ?side3 ?side4 ?side5 A141.out).mono ?_
                  (case side1 => repeat (first | exact (Kd.R_reads' HO274.out).2.2 | (with_reducible refine Kd.C_alloc ?_ _) | (with_reducible refine Kd.C_drewN ?_ _) | (with_reducible refine Kd.C_drew ?_)))
                  (case side2 => exact (Kd.R_reads' HO274.out).2.1)
                  (case side3 => repeat (first | exact (Kd.R_reads' HO279.out).2.2 | (with_reducible refine Kd.C_alloc ?_ _) | (with_reducible refine Kd.C_drewN ?_ _) | (with_reducible refine Kd.C_drew ?_)))
                  (case side4 => exact (Kd.R_reads' HO279.out).2.1)
                  (case side5 => first | exact HT.out | exact XTab.below HT.out (by repeat (first | (with_reducible first | exact HB.out | apply below_alloc | apply pw_below_drewN | apply below_drew1 | refine below_set ?_ GE209.out | refine below_set ?_ GE210.out | refine below_set ?_ GE229.out | refine below_set ?_ GE235.out | refine below_set ?_ GE241.out | refine below_set ?_ GE248.out | refine below_set ?_ GE286.out) | exact HB.out)) | (repeat (first | exact HT.out | apply XTab.drewN | apply XTab.drew | apply XTab.alloc)))
                  rintro e w158 ⟨v283, rfl, ho0, hb⟩
                  refine ⟨_, rfl, ?_⟩
                  have n0_ := Aside0.mk (Kd.V_elder' (by (with_reducible repeat (first | apply Kd.V_alloc | apply Kd.V_drewN | apply Kd.V_drew)); exact HO_230002.out) (Kd.R_base ho0) hb)
                  have n1_ := Aside0.mk (Kd.R_elder' (by (with_reducible repeat (first | apply Kd.R_alloc | apply Kd.R_drewN | apply Kd.R_drew)); exact HO_236002.out) (Kd.R_base ho0) hb)
                  have n2_ := Aside0.mk (Kd.R_elder' (by (with_reducible repeat (first | apply Kd.R_alloc | apply Kd.R_drewN | apply Kd.R_drew)); exact HO_242002.out) (Kd.R_base ho0) hb)
                  have n3_ := Aside0.mk (Kd.R_elder' (by (with_reducible repeat (first | apply Kd.R_alloc | apply Kd.R_drewN | apply Kd.R_drew)); exact HO_249002.out) (Kd.R_base ho0) hb)
                  have n4_ := Aside0.mk (Kd.R_elder' (by (with_reducible repeat (first | apply Kd.R_alloc | apply Kd.R_drewN | apply Kd.R_drew)); exact HO274.out) (Kd.R_base ho0) hb)
                  have n5_ := Aside0.mk (Kd.R_elder' (by (with_reducible repeat (first | apply Kd.R_alloc | apply Kd.R_drewN | apply Kd.R_drew)); exact HO279.out) (Kd.R_base ho0) hb)
                  have n6_ := Aside0.mk (Kd.R_lower (Kd.R_new' (Kd.R_new' (Kd.R_new' (Kd.R_new' (Kd.R_new' ho0 (Kd.R_lt (by (with_reducible repeat (first | apply Kd.R_alloc | apply Kd.R_drewN | apply Kd.R_drew)); exact HO_236002.out))) (Kd.R_lt (by (with_reducible repeat (first | apply Kd.R_alloc | apply Kd.R_drewN | apply Kd.R_drew)); exact HO_242002.out))) (Kd.R_lt (by (with_reducible repeat (first | apply Kd.R_alloc | apply Kd.R_drewN | apply Kd.R_drew)); exact HO_249002.out))) (Kd.R_lt (by (with_reducible repeat (first | apply Kd.R_alloc | apply Kd.R_drewN | apply Kd.R_drew)); exact HO274.out))) (Kd.R_lt (by (with_reducible repeat (first | apply Kd.R_alloc | apply Kd.R_drewN | apply Kd.R_drew)); exact HO279.out))) (below_size (by repeat (first | (with_reducible first | exact HB.out | apply below_alloc | apply pw_below_drewN | apply below_drew1 | refine below_set ?_ GE209.out | refine below_set ?_ GE210.out | refine below_set ?_ GE229.out | refine below_set ?_ GE235.out | refine below_set ?_ GE241.out | refine below_set ?_ GE248.out | refine below_set ?_ GE286.out) | exact HB.out))))
                  have n7_ := Aside0.mk (blk_below (g := gb209) (o := .cells #[.int .i64 a0_0, .bool a0_1, .slice A0_2 l0_2.length c0_2] 32 (0, 0)) (by (with_reducible repeat (first | refine blk_drewN ?_ _ | refine blk_drew ?_ | refine blk_alloc ?_ _)); exact BK209.out) hb)
                  have n8_ := Aside0.mk (blk_below (g := gb210) (o := .cells #[.int .i64 a1_0, .bool a1_1, .slice A1_2 l1_2.length c1_2] 32 (0, 0)) (by (with_reducible repeat (first | refine blk_drewN ?_ _ | refine blk_drew ?_ | refine blk_alloc ?_ _)); exact BK210.out) hb)
                  have n9_ := Aside0.mk (blk_below (g := gb229) (o := .cells #[.int .i64 t223, .bool t224, .slice Ao43 t225.length co43] 34 (0, 0)) (by (with_reducible repeat (first | refine blk_drewN ?_ _ | refine blk_drew ?_ | refine blk_alloc ?_ _)); exact BK229.out) hb)
                  have n10_ := Aside0.mk (blk_below (g := gb235) (o := .cells #[.int .i64 t230, .bool t231, .slice Ao53 t263.length co53] 34 (0, 0)) (by (with_reducible repeat (first | refine blk_drewN ?_ _ | refine blk_drew ?_ | refine blk_alloc ?_ _)); exact BK235.out) hb)
                  have n11_ := Aside0.mk (blk_below (g := gb241) (o := .cells #[.int .i64 t236, .bool t237, .slice Ao63 t265.length co63] 34 (0, 0)) (by (with_reducible repeat (first | refine blk_drewN ?_ _ | refine blk_drew ?_ | refine blk_alloc ?_ _)); exact BK241.out) hb)
                  have n12_ := Aside0.mk (blk_below (g := gb248) (o := .cells #[.int .i64 t242, .bool t243, .slice Ao73 t244.length co73] 34 (0, 0)) (by (with_reducible repeat (first | refine blk_drewN ?_ _ | refine blk_drew ?_ | refine blk_alloc ?_ _)); exact BK248.out) hb)
                  have n13_ := Aside0.mk (blk_below (g := gb286) (o := .cells #[.int .i64 0, .bool false, .slice none 0 0] 34 (0, 0)) (by (with_reducible repeat (first | refine blk_drewN ?_ _ | refine blk_drew ?_ | refine blk_alloc ?_ _)); exact BK286.out) hb)
                  have n14_ := Aside0.mk (below_step (by repeat (first | (with_reducible first | exact HB.out | apply below_alloc | apply pw_below_drewN | apply below_drew1 | refine below_set ?_ GE209.out | refine below_set ?_ GE210.out | refine below_set ?_ GE229.out | refine below_set ?_ GE235.out | refine below_set ?_ GE241.out | refine below_set ?_ GE248.out | refine below_set ?_ GE286.out) | exact HB.out)) hb)
                  clear HO_230002
                  clear HO_236002
                  clear HO_242002
                  clear HO_249002
                  clear HO274
                  clear HO279
                  clear BK209
                  clear BK210
                  clear BK229
                  clear BK235
                  clear BK241
                  clear BK248
                  clear BK286
                  clear HB
                  have HO_230002 := n0_
                  have HO_236002 := n1_
                  have HO_242002 := n2_
                  have HO_249002 := n3_
                  have HO274 := n4_
                  have HO279 := n5_
                  have HO284 := n6_
                  have BK209 := n7_
                  have BK210 := n8_
                  have BK229 := n9_
                  have BK235 := n10_
                  have BK241 := n11_
                  have BK248 := n12_
                  have BK286 := n13_
                  have HB := n14_
                  clear n0_ n1_ n2_ n3_ n4_ n5_ n6_ n7_ n8_ n9_ n10_ n11_ n12_ n13_ n14_
                  (try clear hb)
                  (try clear hb2)
                  (try clear hk)
                  (try clear hi)
                  (try clear ho0)
                  refine hK.out _ _ ⟨(blk_cell BK209.out 0).trans rfl, (blk_cell BK209.out 1).trans rfl, (blk_cell BK209.out 2).trans rfl, (blk_cell BK210.out 0).trans rfl, (blk_cell BK210.out 1).trans rfl, (blk_cell BK210.out 2).trans rfl⟩ (fun hHeld => ?_)
                  clear hK K
                  refine norm_ (a' := ?_) ?_ ?_
                  rotate_left
                  · show Act.put _ (some 99) _ = _
                    simp only [Act.put, List.setIfInBounds_toArray, List.set_cons_zero, List.set_cons_succ, i64_w, i32_w]
                    rfl
                  refine pure_ (i := 5) (N := some 94) (v := ?_) (a' := ?_) #[true, true, true, true, true, true, false, false, true, false, false] rfl rfl (any_of HT_.out (by kernel_rfl)) (fun _ _ _ h => h) (Or.inl ⟨by rfl, ?_⟩) ?_ ?_
                  rotate_left
                  · intro w'
                    go_simp
                    with_reducible rfl
                  rotate_left
                  · simp only [Act.put, List.setIfInBounds_toArray, List.set_cons_zero, List.set_cons_succ, i64_w, i32_w]
                    rfl
                  refine pure_ (i := 6) (N := some 100) (v := ?_) (a' := ?_) #[true, true, true, true, true, true, true, false, true, false, false] rfl rfl (any_of HT_.out (by kernel_rfl)) (fun _ _ _ h => h) (Or.inl ⟨by rfl, ?_⟩) ?_ ?_
                  rotate_left
                  · intro w'
                    go_simp
                    with_reducible rfl
                  rotate_left
                  · simp only [Act.put, List.setIfInBounds_toArray, List.set_cons_zero, List.set_cons_succ, i64_w, i32_w]
                    rfl
                  refine pure_ (i := 7) (N := some 101) (v := ?_) (a' := ?_) #[true, true, true, true, true, true, true, true, true, false, false] rfl rfl (any_of HT_.out (by kernel_rfl)) (fun _ _ _ h => h) (Or.inl ⟨by rfl, ?_⟩) ?_ ?_
                  rotate_left
                  · intro w'
                    go_simp
                    with_reducible rfl
                  rotate_left
                  · simp only [Act.put, List.setIfInBounds_toArray, List.set_cons_zero, List.set_cons_succ, i64_w, i32_w]
                    rfl
                  exact norm_ (by simp only [putAll, Act.put, List.setIfInBounds_toArray, List.set_cons_zero, List.set_cons_succ]) (hCont (.slice Ao156 t272.length co156, .slice Ao157 t277.length co157, v283, gb286) _ ⟨hHeld, (by (with_reducible repeat (first | apply Kd.R_alloc | apply Kd.R_drewN | apply Kd.R_drew)); exact Kd.R_mono HO274.out (fun _ hk => ⟨hk.1.2, ⟨hk.2, ⟨hk.1.1.1.1.2, ⟨hk.1.1.1.2, hk.1.1.2⟩⟩⟩⟩)), (by (with_reducible repeat (first | apply Kd.R_alloc | apply Kd.R_drewN | apply Kd.R_drew)); exact Kd.R_mono HO279.out (fun _ hk => ⟨hk.1.2, ⟨hk.2, ⟨hk.1.1.1.1.2, ⟨hk.1.1.1.2, hk.1.1.2⟩⟩⟩⟩)), (by (with_reducible repeat (first | apply Kd.R_alloc | apply Kd.R_drewN | apply Kd.R_drew)); exact Kd.R_mono HO284.out (fun _ hk => ⟨hk.1.2, ⟨hk.2, ⟨hk.1.1.1.1.2, ⟨hk.1.1.1.2, hk.1.1.2⟩⟩⟩⟩)), (by (with_reducible repeat (first | apply Kd.V_alloc | apply Kd.V_drewN | apply Kd.V_drew)); exact Kd.V_mono HO_230002.out (fun _ hk => ⟨hk.1.1.1.2, ⟨hk.1.1.2, ⟨hk.2, ⟨hk.1.1.1.1.1, ⟨hk.1.1.1.1.2.1, ⟨hk.1.1.1.1.2.2.1, ⟨hk.1.1.1.1.2.2.2.1, ⟨hk.1.1.1.1.2.2.2.2.1, ⟨hk.1.1.1.1.2.2.2.2.2.1, ⟨hk.1.1.1.1.2.2.2.2.2.2.1, ⟨hk.1.1.1.1.2.2.2.2.2.2.2.1, ⟨hk.1.1.1.1.2.2.2.2.2.2.2.2, hk.1.2⟩⟩⟩⟩⟩⟩⟩⟩⟩⟩⟩⟩)), (by (with_reducible repeat (first | apply Kd.R_alloc | apply Kd.R_drewN | apply Kd.R_drew)); exact Kd.R_mono HO_236002.out (fun _ hk => ⟨hk.1.1.2, ⟨hk.1.2, ⟨hk.2, ⟨hk.1.1.1.1, hk.1.1.1.2⟩⟩⟩⟩)), (by (with_reducible repeat (first | apply Kd.R_alloc | apply Kd.R_drewN | apply Kd.R_drew)); exact Kd.R_mono HO_242002.out (fun _ hk => ⟨hk.1.1.2, ⟨hk.1.2, ⟨hk.2, ⟨hk.1.1.1.1, hk.1.1.1.2⟩⟩⟩⟩)), (by (with_reducible repeat (first | apply Kd.R_alloc | apply Kd.R_drewN | apply Kd.R_drew)); exact Kd.R_mono HO_249002.out (fun _ hk => ⟨hk.1.1.2, ⟨hk.1.2, ⟨hk.2, ⟨hk.1.1.1.1, hk.1.1.1.2⟩⟩⟩⟩)), (by (with_reducible repeat (first | refine blk_drewN ?_ _ | refine blk_drew ?_ | refine blk_alloc ?_ _)); exact BK209.out), (by (with_reducible repeat (first | refine blk_drewN ?_ _ | refine blk_drew ?_ | refine blk_alloc ?_ _)); exact BK210.out), (by (with_reducible repeat (first | refine blk_drewN ?_ _ | refine blk_drew ?_ | refine blk_alloc ?_ _)); exact BK229.out), (by (with_reducible repeat (first | refine blk_drewN ?_ _ | refine blk_drew ?_ | refine blk_alloc ?_ _)); exact BK235.out), (by (with_reducible repeat (first | refine blk_drewN ?_ _ | refine blk_drew ?_ | refine blk_alloc ?_ _)); exact BK241.out), (by (with_reducible repeat (first | refine blk_drewN ?_ _ | refine blk_drew ?_ | refine blk_alloc ?_ _)); exact BK248.out), (by (with_reducible repeat (first | refine blk_drewN ?_ _ | refine blk_drew ?_ | refine blk_alloc ?_ _)); exact BK286.out), GW286.out, GE286.out, NB209_286.out, NB286_209.out, NB210_286.out, NB286_210.out, NB229_286.out, NB286_229.out, NB235_286.out, NB286_235.out, NB241_286.out, NB286_241.out, NB248_286.out, NB286_248.out, (by repeat (first | (with_reducible first | exact HB.out | apply below_alloc | apply pw_below_drewN | apply below_drew1 | refine below_set ?_ GE209.out | refine below_set ?_ GE210.out | refine below_set ?_ GE229.out | refine below_set ?_ GE235.out | refine below_set ?_ GE241.out | refine below_set ?_ GE248.out | refine below_set ?_ GE286.out) | exact HB.out))⟩)
              · skip
                refine box_step ?hg (N := 15) ?hd (cs := #[.int .i64 0, .bool false, .slice none 0 0]) (t := 34) ?hr ?_; (case hd => rfl); (case hg => rfl); (case hr => first | (go_simp; done) | (go_simp; rfl))
                intro gb286 hg w154 hbox hb
                have n0_ := Aside0.mk (Kd.V_below (Kd.V_elderB (by (with_reducible repeat (first | apply Kd.V_alloc | apply Kd.V_drewN | apply Kd.V_drew)); exact HO_230002.out) gb286 (Nat.le_of_eq hg.symm)) hb)
                have n1_ := Aside0.mk (Kd.R_below (by (with_reducible repeat (first | apply Kd.R_alloc | apply Kd.R_drewN | apply Kd.R_drew)); exact HO_236002.out) hb)
                have n2_ := Aside0.mk (Kd.R_below (by (with_reducible repeat (first | apply Kd.R_alloc | apply Kd.R_drewN | apply Kd.R_drew)); exact HO_242002.out) hb)
                have n3_ := Aside0.mk (Kd.R_below (by (with_reducible repeat (first | apply Kd.R_alloc | apply Kd.R_drewN | apply Kd.R_drew)); exact HO_249002.out) hb)
                have n4_ := Aside0.mk (Kd.R_below (by (with_reducible repeat (first | apply Kd.R_alloc | apply Kd.R_drewN | apply Kd.R_drew)); exact HO274.out) hb)
                have n5_ := Aside0.mk (blk_below (g := gb209) (o := .cells #[.int .i64 a0_0, .bool a0_1, .slice A0_2 l0_2.length c0_2] 32 (0, 0)) (by (with_reducible repeat (first | refine blk_drewN ?_ _ | refine blk_drew ?_ | refine blk_alloc ?_ _)); exact BK209.out) hb)
                have n6_ := Aside0.mk (blk_below (g := gb210) (o := .cells #[.int .i64 a1_0, .bool a1_1, .slice A1_2 l1_2.length c1_2] 32 (0, 0)) (by (with_reducible repeat (first | refine blk_drewN ?_ _ | refine blk_drew ?_ | refine blk_alloc ?_ _)); exact BK210.out) hb)
                have n7_ := Aside0.mk (blk_below (g := gb229) (o := .cells #[.int .i64 t223, .bool t224, .slice Ao43 t225.length co43] 34 (0, 0)) (by (with_reducible repeat (first | refine blk_drewN ?_ _ | refine blk_drew ?_ | refine blk_alloc ?_ _)); exact BK229.out) hb)
                have n8_ := Aside0.mk (blk_below (g := gb235) (o := .cells #[.int .i64 t230, .bool t231, .slice Ao53 t263.length co53] 34 (0, 0)) (by (with_reducible repeat (first | refine blk_drewN ?_ _ | refine blk_drew ?_ | refine blk_alloc ?_ _)); exact BK235.out) hb)
                have n9_ := Aside0.mk (blk_below (g := gb241) (o := .cells #[.int .i64 t236, .bool t237, .slice Ao63 t265.length co63] 34 (0, 0)) (by (with_reducible repeat (first | refine blk_drewN ?_ _ | refine blk_drew ?_ | refine blk_alloc ?_ _)); exact BK241.out) hb)
                have n10_ := Aside0.mk (blk_below (g := gb248) (o := .cells #[.int .i64 t242, .bool t243, .slice Ao73 t244.length co73] 34 (0, 0)) (by (with_reducible repeat (first | refine blk_drewN ?_ _ | refine blk_drew ?_ | refine blk_alloc ?_ _)); exact BK248.out) hb)
                have n11_ := Aside0.mk (below_step (by repeat (first | (with_reducible first | exact HB.out | apply below_alloc | apply pw_below_drewN | apply below_drew1 | refine below_set ?_ GE209.out | refine below_set ?_ GE210.out | refine below_set ?_ GE229.out | refine below_set ?_ GE235.out | refine below_set ?_ GE241.out | refine below_set ?_ GE248.out) | exact HB.out)) hb)
                have n12_ := Aside0.mk (hbox)
                have n13_ := Aside0.mk ((by rw [hg]; exact (below_size (by repeat (first | (with_reducible first | exact HB.out | apply below_alloc | apply pw_below_drewN | apply below_drew1 | refine below_set ?_ GE209.out | refine below_set ?_ GE210.out | refine below_set ?_ GE229.out | refine below_set ?_ GE235.out | refine below_set ?_ GE241.out | refine below_set ?_ GE248.out) | exact HB.out))) : w.heap.size ≤ gb286))
                have n14_ := Aside0.mk ((by rw [hg]; exact (below_size (by repeat (first | (with_reducible first | exact HB.out | apply below_alloc | apply pw_below_drewN | apply below_drew1 | refine below_set ?_ GE209.out | refine below_set ?_ GE210.out | refine below_set ?_ GE229.out | refine below_set ?_ GE235.out | refine below_set ?_ GE241.out | refine below_set ?_ GE248.out) | exact HB.out))) : w.heap.size ≤ gb286))
                have n15_ := Aside0.mk ((by rw [hg]; exact Nat.ne_of_lt (blk_lt (g := gb209) (o := .cells #[.int .i64 a0_0, .bool a0_1, .slice A0_2 l0_2.length c0_2] 32 (0, 0)) (by (with_reducible repeat (first | refine blk_drewN ?_ _ | refine blk_drew ?_ | refine blk_alloc ?_ _)); exact BK209.out)) : gb209 ≠ gb286))
                have n16_ := Aside0.mk ((by rw [hg]; exact Nat.ne_of_gt (blk_lt (g := gb209) (o := .cells #[.int .i64 a0_0, .bool a0_1, .slice A0_2 l0_2.length c0_2] 32 (0, 0)) (by (with_reducible repeat (first | refine blk_drewN ?_ _ | refine blk_drew ?_ | refine blk_alloc ?_ _)); exact BK209.out)) : gb286 ≠ gb209))
                have n17_ := Aside0.mk ((by rw [hg]; exact Nat.ne_of_lt (blk_lt (g := gb210) (o := .cells #[.int .i64 a1_0, .bool a1_1, .slice A1_2 l1_2.length c1_2] 32 (0, 0)) (by (with_reducible repeat (first | refine blk_drewN ?_ _ | refine blk_drew ?_ | refine blk_alloc ?_ _)); exact BK210.out)) : gb210 ≠ gb286))
                have n18_ := Aside0.mk ((by rw [hg]; exact Nat.ne_of_gt (blk_lt (g := gb210) (o := .cells #[.int .i64 a1_0, .bool a1_1, .slice A1_2 l1_2.length c1_2] 32 (0, 0)) (by (with_reducible repeat (first | refine blk_drewN ?_ _ | refine blk_drew ?_ | refine blk_alloc ?_ _)); exact BK210.out)) : gb286 ≠ gb210))
                have n19_ := Aside0.mk ((by rw [hg]; exact Nat.ne_of_lt (blk_lt (g := gb229) (o := .cells #[.int .i64 t223, .bool t224, .slice Ao43 t225.length co43] 34 (0, 0)) (by (with_reducible repeat (first | refine blk_drewN ?_ _ | refine blk_drew ?_ | refine blk_alloc ?_ _)); exact BK229.out)) : gb229 ≠ gb286))
                have n20_ := Aside0.mk ((by rw [hg]; exact Nat.ne_of_gt (blk_lt (g := gb229) (o := .cells #[.int .i64 t223, .bool t224, .slice Ao43 t225.length co43] 34 (0, 0)) (by (with_reducible repeat (first | refine blk_drewN ?_ _ | refine blk_drew ?_ | refine blk_alloc ?_ _)); exact BK229.out)) : gb286 ≠ gb229))
                have n21_ := Aside0.mk ((by rw [hg]; exact Nat.ne_of_lt (blk_lt (g := gb235) (o := .cells #[.int .i64 t230, .bool t231, .slice Ao53 t263.length co53] 34 (0, 0)) (by (with_reducible repeat (first | refine blk_drewN ?_ _ | refine blk_drew ?_ | refine blk_alloc ?_ _)); exact BK235.out)) : gb235 ≠ gb286))
                have n22_ := Aside0.mk ((by rw [hg]; exact Nat.ne_of_gt (blk_lt (g := gb235) (o := .cells #[.int .i64 t230, .bool t231, .slice Ao53 t263.length co53] 34 (0, 0)) (by (with_reducible repeat (first | refine blk_drewN ?_ _ | refine blk_drew ?_ | refine blk_alloc ?_ _)); exact BK235.out)) : gb286 ≠ gb235))
                have n23_ := Aside0.mk ((by rw [hg]; exact Nat.ne_of_lt (blk_lt (g := gb241) (o := .cells #[.int .i64 t236, .bool t237, .slice Ao63 t265.length co63] 34 (0, 0)) (by (with_reducible repeat (first | refine blk_drewN ?_ _ | refine blk_drew ?_ | refine blk_alloc ?_ _)); exact BK241.out)) : gb241 ≠ gb286))
                have n24_ := Aside0.mk ((by rw [hg]; exact Nat.ne_of_gt (blk_lt (g := gb241) (o := .cells #[.int .i64 t236, .bool t237, .slice Ao63 t265.length co63] 34 (0, 0)) (by (with_reducible repeat (first | refine blk_drewN ?_ _ | refine blk_drew ?_ | refine blk_alloc ?_ _)); exact BK241.out)) : gb286 ≠ gb241))
                have n25_ := Aside0.mk ((by rw [hg]; exact Nat.ne_of_lt (blk_lt (g := gb248) (o := .cells #[.int .i64 t242, .bool t243, .slice Ao73 t244.length co73] 34 (0, 0)) (by (with_reducible repeat (first | refine blk_drewN ?_ _ | refine blk_drew ?_ | refine blk_alloc ?_ _)); exact BK248.out)) : gb248 ≠ gb286))
                have n26_ := Aside0.mk ((by rw [hg]; exact Nat.ne_of_gt (blk_lt (g := gb248) (o := .cells #[.int .i64 t242, .bool t243, .slice Ao73 t244.length co73] 34 (0, 0)) (by (with_reducible repeat (first | refine blk_drewN ?_ _ | refine blk_drew ?_ | refine blk_alloc ?_ _)); exact BK248.out)) : gb286 ≠ gb248))
                clear HO_230002
                clear HO_236002
                clear HO_242002
                clear HO_249002
                clear HO274
                clear BK209
                clear BK210
                clear BK229
                clear BK235
                clear BK241
                clear BK248
                clear HB
                have HO_230002 := n0_
                have HO_236002 := n1_
                have HO_242002 := n2_
                have HO_249002 := n3_
                have HO274 := n4_
                have BK209 := n5_
                have BK210 := n6_
                have BK229 := n7_
                have BK235 := n8_
                have BK241 := n9_
                have BK248 := n10_
                have HB := n11_
                have BK286 := n12_
                have GW286 := n13_
                have GE286 := n14_
                have NB209_286 := n15_
                have NB286_209 := n16_
                have NB210_286 := n17_
                have NB286_210 := n18_
                have NB229_286 := n19_
                have NB286_229 := n20_
                have NB235_286 := n21_
                have NB286_235 := n22_
                have NB241_286 := n23_
                have NB286_241 := n24_
                have NB248_286 := n25_
                have NB286_248 := n26_
                clear n0_ n1_ n2_ n3_ n4_ n5_ n6_ n7_ n8_ n9_ n10_ n11_ n12_ n13_ n14_ n15_ n16_ n17_ n18_ n19_ n20_ n21_ n22_ n23_ n24_ n25_ n26_
                clear hb hbox hg
                refine hK.out _ _ ⟨(blk_cell BK209.out 0).trans rfl, (blk_cell BK209.out 1).trans rfl, (blk_cell BK209.out 2).trans rfl, (blk_cell BK210.out 0).trans rfl, (blk_cell BK210.out 1).trans rfl, (blk_cell BK210.out 2).trans rfl⟩ (fun hHeld => ?_)
                clear hK K
                refine norm_ (a' := ?_) ?_ ?_
                rotate_left
                · show Act.put _ (some 15) _ = _
                  simp only [Act.put, List.setIfInBounds_toArray, List.set_cons_zero, List.set_cons_succ, i64_w, i32_w]
                  rfl
                refine one_ (i := 3) (N := some 98) #[true, true, true, true, false, false, false, false, true, false, false] rfl rfl (one_of HT_.out (by kernel_rfl)) (by decide) (fun K hK => ?_)
                refine goes_ Tryd.func18 (by kernel_rfl) rfl #[.agg #[.int .i64 a1_0, .bool a1_1, .slice A1_2 l1_2.length c1_2]] (by rfl) rfl rfl (by (try simp only [List.map_toArray, List.map_cons, List.map_nil]); first | done | rfl | (simp only [List.length_drop, List.length_take]; rfl)) ?_
                with_reducible refine (laws_toRow.calls kj96 a1_0 a1_1 _ _ l1_2 t275 t276 t277 _ ?side1 ?side2 A140.out).mono ?_
                (case side1 => repeat (first | exact (Kd.C_below HR1_2.out HB.out) | (with_reducible refine Kd.C_alloc ?_ _) | (with_reducible refine Kd.C_drewN ?_ _) | (with_reducible refine Kd.C_drew ?_)))
                (case side2 => exact HC1_2.out)
                rintro e w155 ⟨v278, rfl, ho0, hb⟩
                refine ⟨_, rfl, ?_⟩
                have n0_ := Aside0.mk (Kd.V_elder' (by (with_reducible repeat (first | apply Kd.V_alloc | apply Kd.V_drewN | apply Kd.V_drew)); exact HO_230002.out) (Kd.R_base ho0) hb)
                have n1_ := Aside0.mk (Kd.R_elder' (by (with_reducible repeat (first | apply Kd.R_alloc | apply Kd.R_drewN | apply Kd.R_drew)); exact HO_236002.out) (Kd.R_base ho0) hb)
                have n2_ := Aside0.mk (Kd.R_elder' (by (with_reducible repeat (first | apply Kd.R_alloc | apply Kd.R_drewN | apply Kd.R_drew)); exact HO_242002.out) (Kd.R_base ho0) hb)
                have n3_ := Aside0.mk (Kd.R_elder' (by (with_reducible repeat (first | apply Kd.R_alloc | apply Kd.R_drewN | apply Kd.R_drew)); exact HO_249002.out) (Kd.R_base ho0) hb)
                have n4_ := Aside0.mk (Kd.R_elder' (by (with_reducible repeat (first | apply Kd.R_alloc | apply Kd.R_drewN | apply Kd.R_drew)); exact HO274.out) (Kd.R_base ho0) hb)
                have n5_ := Aside0.mk (Kd.R_lower (Kd.R_new' (Kd.R_new' (Kd.R_new' (Kd.R_new' ho0 (Kd.R_lt (by (with_reducible repeat (first | apply Kd.R_alloc | apply Kd.R_drewN | apply Kd.R_drew)); exact HO_236002.out))) (Kd.R_lt (by (with_reducible repeat (first | apply Kd.R_alloc | apply Kd.R_drewN | apply Kd.R_drew)); exact HO_242002.out))) (Kd.R_lt (by (with_reducible repeat (first | apply Kd.R_alloc | apply Kd.R_drewN | apply Kd.R_drew)); exact HO_249002.out))) (Kd.R_lt (by (with_reducible repeat (first | apply Kd.R_alloc | apply Kd.R_drewN | apply Kd.R_drew)); exact HO274.out))) (below_size (by repeat (first | (with_reducible first | exact HB.out | apply below_alloc | apply pw_below_drewN | apply below_drew1 | refine below_set ?_ GE209.out | refine below_set ?_ GE210.out | refine below_set ?_ GE229.out | refine below_set ?_ GE235.out | refine below_set ?_ GE241.out | refine below_set ?_ GE248.out | refine below_set ?_ GE286.out) | exact HB.out))))
                have n6_ := Aside0.mk (blk_below (g := gb209) (o := .cells #[.int .i64 a0_0, .bool a0_1, .slice A0_2 l0_2.length c0_2] 32 (0, 0)) (by (with_reducible repeat (first | refine blk_drewN ?_ _ | refine blk_drew ?_ | refine blk_alloc ?_ _)); exact BK209.out) hb)
                have n7_ := Aside0.mk (blk_below (g := gb210) (o := .cells #[.int .i64 a1_0, .bool a1_1, .slice A1_2 l1_2.length c1_2] 32 (0, 0)) (by (with_reducible repeat (first | refine blk_drewN ?_ _ | refine blk_drew ?_ | refine blk_alloc ?_ _)); exact BK210.out) hb)
                have n8_ := Aside0.mk (blk_below (g := gb229) (o := .cells #[.int .i64 t223, .bool t224, .slice Ao43 t225.length co43] 34 (0, 0)) (by (with_reducible repeat (first | refine blk_drewN ?_ _ | refine blk_drew ?_ | refine blk_alloc ?_ _)); exact BK229.out) hb)
                have n9_ := Aside0.mk (blk_below (g := gb235) (o := .cells #[.int .i64 t230, .bool t231, .slice Ao53 t263.length co53] 34 (0, 0)) (by (with_reducible repeat (first | refine blk_drewN ?_ _ | refine blk_drew ?_ | refine blk_alloc ?_ _)); exact BK235.out) hb)
                have n10_ := Aside0.mk (blk_below (g := gb241) (o := .cells #[.int .i64 t236, .bool t237, .slice Ao63 t265.length co63] 34 (0, 0)) (by (with_reducible repeat (first | refine blk_drewN ?_ _ | refine blk_drew ?_ | refine blk_alloc ?_ _)); exact BK241.out) hb)
                have n11_ := Aside0.mk (blk_below (g := gb248) (o := .cells #[.int .i64 t242, .bool t243, .slice Ao73 t244.length co73] 34 (0, 0)) (by (with_reducible repeat (first | refine blk_drewN ?_ _ | refine blk_drew ?_ | refine blk_alloc ?_ _)); exact BK248.out) hb)
                have n12_ := Aside0.mk (blk_below (g := gb286) (o := .cells #[.int .i64 0, .bool false, .slice none 0 0] 34 (0, 0)) (by (with_reducible repeat (first | refine blk_drewN ?_ _ | refine blk_drew ?_ | refine blk_alloc ?_ _)); exact BK286.out) hb)
                have n13_ := Aside0.mk (below_step (by repeat (first | (with_reducible first | exact HB.out | apply below_alloc | apply pw_below_drewN | apply below_drew1 | refine below_set ?_ GE209.out | refine below_set ?_ GE210.out | refine below_set ?_ GE229.out | refine below_set ?_ GE235.out | refine below_set ?_ GE241.out | refine below_set ?_ GE248.out | refine below_set ?_ GE286.out) | exact HB.out)) hb)
                clear HO_230002
                clear HO_236002
                clear HO_242002
                clear HO_249002
                clear HO274
                clear BK209
                clear BK210
                clear BK229
                clear BK235
                clear BK241
                clear BK248
                clear BK286
                clear HB
                have HO_230002 := n0_
                have HO_236002 := n1_
                have HO_242002 := n2_
                have HO_249002 := n3_
                have HO274 := n4_
                have HO279 := n5_
                have BK209 := n6_
                have BK210 := n7_
                have BK229 := n8_
                have BK235 := n9_
                have BK241 := n10_
                have BK248 := n11_
                have BK286 := n12_
                have HB := n13_
                clear n0_ n1_ n2_ n3_ n4_ n5_ n6_ n7_ n8_ n9_ n10_ n11_ n12_ n13_
                (try clear hb)
                (try clear hb2)
                (try clear hk)
                (try clear hi)
                (try clear ho0)
                obtain ⟨Ao156, co156, eo156⟩ := Kd.R_slice HO274.out
                (first | subst eo156 | (injection eo156 with f1_ f2_ f3_; have f4_ := f1_.symm; have f5_ := f3_.symm; clear f1_ f2_ f3_; subst f4_; subst f5_))
                obtain ⟨Ao157, co157, eo157⟩ := Kd.R_slice HO279.out
                (first | subst eo157 | (injection eo157 with f1_ f2_ f3_; have f4_ := f1_.symm; have f5_ := f3_.symm; clear f1_ f2_ f3_; subst f4_; subst f5_))
                refine hK.out _ _ ⟨(blk_cell BK209.out 0).trans rfl, (blk_cell BK209.out 1).trans rfl, (blk_cell BK209.out 2).trans rfl, (blk_cell BK210.out 0).trans rfl, (blk_cell BK210.out 1).trans rfl, (blk_cell BK210.out 2).trans rfl⟩ (fun hHeld => ?_)
                clear hK K
                refine norm_ (a' := ?_) ?_ ?_
                rotate_left
                · show Act.put _ (some 98) _ = _
                  simp only [Act.put, List.setIfInBounds_toArray, List.set_cons_zero, List.set_cons_succ, i64_w, i32_w]
                  rfl
                refine one_ (i := 4) (N := some 99) #[true, true, true, true, true, false, false, false, true, false, false] rfl rfl (one_of HT_.out (by kernel_rfl)) (by decide) (fun K hK => ?_)
                refine goes_ Tryd.func24 (by kernel_rfl) rfl #[.agg #[.int .i64 t270, .bool t271, .slice Ao156 t272.length co156], .agg #[.int .i64 t275, .bool t276, .slice Ao157 t277.length co157]] (by rfl) rfl rfl (by (try simp only [List.map_toArray, List.map_cons, List.map_nil]); first | done | rfl | (simp only [List.length_drop, List.length_take]; rfl)) ?_
                with_reducible refine (impl_JoinSeats.calls kj96 t270 t271 _ _ t272 t275 t276 _ _ t277 t280 t281 t282 t285 _ ?side1 ?side2 ?side3 ?side4 ?side5 A141.out).mono ?_
                (case side1 => repeat (first | exact (Kd.R_reads' HO274.out).2.2 | (with_reducible refine Kd.C_alloc ?_ _) | (with_reducible refine Kd.C_drewN ?_ _) | (with_reducible refine Kd.C_drew ?_)))
                (case side2 => exact (Kd.R_reads' HO274.out).2.1)
                (case side3 => repeat (first | exact (Kd.R_reads' HO279.out).2.2 | (with_reducible refine Kd.C_alloc ?_ _) | (with_reducible refine Kd.C_drewN ?_ _) | (with_reducible refine Kd.C_drew ?_)))
                (case side4 => exact (Kd.R_reads' HO279.out).2.1)
                (case side5 => first | exact HT.out | exact XTab.below HT.out (by repeat (first | (with_reducible first | exact HB.out | apply below_alloc | apply pw_below_drewN | apply below_drew1 | refine below_set ?_ GE209.out | refine below_set ?_ GE210.out | refine below_set ?_ GE229.out | refine below_set ?_ GE235.out | refine below_set ?_ GE241.out | refine below_set ?_ GE248.out | refine below_set ?_ GE286.out) | exact HB.out)) | (repeat (first | exact HT.out | apply XTab.drewN | apply XTab.drew | apply XTab.alloc)))
                rintro e w158 ⟨v283, rfl, ho0, hb⟩
                refine ⟨_, rfl, ?_⟩
                have n0_ := Aside0.mk (Kd.V_elder' (by (with_reducible repeat (first | apply Kd.V_alloc | apply Kd.V_drewN | apply Kd.V_drew)); exact HO_230002.out) (Kd.R_base ho0) hb)
                have n1_ := Aside0.mk (Kd.R_elder' (by (with_reducible repeat (first | apply Kd.R_alloc | apply Kd.R_drewN | apply Kd.R_drew)); exact HO_236002.out) (Kd.R_base ho0) hb)
                have n2_ := Aside0.mk (Kd.R_elder' (by (with_reducible repeat (first | apply Kd.R_alloc | apply Kd.R_drewN | apply Kd.R_drew)); exact HO_242002.out) (Kd.R_base ho0) hb)
                have n3_ := Aside0.mk (Kd.R_elder' (by (with_reducible repeat (first | apply Kd.R_alloc | apply Kd.R_drewN | apply Kd.R_drew)); exact HO_249002.out) (Kd.R_base ho0) hb)
                have n4_ := Aside0.mk (Kd.R_elder' (by (with_reducible repeat (first | apply Kd.R_alloc | apply Kd.R_drewN | apply Kd.R_drew)); exact HO274.out) (Kd.R_base ho0) hb)
                have n5_ := Aside0.mk (Kd.R_elder' (by (with_reducible repeat (first | apply Kd.R_alloc | apply Kd.R_drewN | apply Kd.R_drew)); exact HO279.out) (Kd.R_base ho0) hb)
                have n6_ := Aside0.mk (Kd.R_lower (Kd.R_new' (Kd.R_new' (Kd.R_new' (Kd.R_new' (Kd.R_new' ho0 (Kd.R_lt (by (with_reducible repeat (first | apply Kd.R_alloc | apply Kd.R_drewN | apply Kd.R_drew)); exact HO_236002.out))) (Kd.R_lt (by (with_reducible repeat (first | apply Kd.R_alloc | apply Kd.R_drewN | apply Kd.R_drew)); exact HO_242002.out))) (Kd.R_lt (by (with_reducible repeat (first | apply Kd.R_alloc | apply Kd.R_drewN | apply Kd.R_drew)); exact HO_249002.out))) (Kd.R_lt (by (with_reducible repeat (first | apply Kd.R_alloc | apply Kd.R_drewN | apply Kd.R_drew)); exact HO274.out))) (Kd.R_lt (by (with_reducible repeat (first | apply Kd.R_alloc | apply Kd.R_drewN | apply Kd.R_drew)); exact HO279.out))) (below_size (by repeat (first | (with_reducible first | exact HB.out | apply below_alloc | apply pw_below_drewN | apply below_drew1 | refine below_set ?_ GE209.out | refine below_set ?_ GE210.out | refine below_set ?_ GE229.out | refine below_set ?_ GE235.out | refine below_set ?_ GE241.out | refine below_set ?_ GE248.out | refine below_set ?_ GE286.out) | exact HB.out))))
                have n7_ := Aside0.mk (blk_below (g := gb209) (o := .cells #[.int .i64 a0_0, .bool a0_1, .slice A0_2 l0_2.length c0_2] 32 (0, 0)) (by (with_reducible repeat (first | refine blk_drewN ?_ _ | refine blk_drew ?_ | refine blk_alloc ?_ _)); exact BK209.out) hb)
                have n8_ := Aside0.mk (blk_below (g := gb210) (o := .cells #[.int .i64 a1_0, .bool a1_1, .slice A1_2 l1_2.length c1_2] 32 (0, 0)) (by (with_reducible repeat (first | refine blk_drewN ?_ _ | refine blk_drew ?_ | refine blk_alloc ?_ _)); exact BK210.out) hb)
                have n9_ := Aside0.mk (blk_below (g := gb229) (o := .cells #[.int .i64 t223, .bool t224, .slice Ao43 t225.length co43] 34 (0, 0)) (by (with_reducible repeat (first | refine blk_drewN ?_ _ | refine blk_drew ?_ | refine blk_alloc ?_ _)); exact BK229.out) hb)
                have n10_ := Aside0.mk (blk_below (g := gb235) (o := .cells #[.int .i64 t230, .bool t231, .slice Ao53 t263.length co53] 34 (0, 0)) (by (with_reducible repeat (first | refine blk_drewN ?_ _ | refine blk_drew ?_ | refine blk_alloc ?_ _)); exact BK235.out) hb)
                have n11_ := Aside0.mk (blk_below (g := gb241) (o := .cells #[.int .i64 t236, .bool t237, .slice Ao63 t265.length co63] 34 (0, 0)) (by (with_reducible repeat (first | refine blk_drewN ?_ _ | refine blk_drew ?_ | refine blk_alloc ?_ _)); exact BK241.out) hb)
                have n12_ := Aside0.mk (blk_below (g := gb248) (o := .cells #[.int .i64 t242, .bool t243, .slice Ao73 t244.length co73] 34 (0, 0)) (by (with_reducible repeat (first | refine blk_drewN ?_ _ | refine blk_drew ?_ | refine blk_alloc ?_ _)); exact BK248.out) hb)
                have n13_ := Aside0.mk (blk_below (g := gb286) (o := .cells #[.int .i64 0, .bool false, .slice none 0 0] 34 (0, 0)) (by (with_reducible repeat (first | refine blk_drewN ?_ _ | refine blk_drew ?_ | refine blk_alloc ?_ _)); exact BK286.out) hb)
                have n14_ := Aside0.mk (below_step (by repeat (first | (with_reducible first | exact HB.out | apply below_alloc | apply pw_below_drewN | apply below_drew1 | refine below_set ?_ GE209.out | refine below_set ?_ GE210.out | refine below_set ?_ GE229.out | refine below_set ?_ GE235.out | refine below_set ?_ GE241.out | refine below_set ?_ GE248.out | refine below_set ?_ GE286.out) | exact HB.out)) hb)
                clear HO_230002
                clear HO_236002
                clear HO_242002
                clear HO_249002
                clear HO274
                clear HO279
                clear BK209
                clear BK210
                clear BK229
                clear BK235
                clear BK241
                clear BK248
                clear BK286
                clear HB
                have HO_230002 := n0_
                have HO_236002 := n1_
                have HO_242002 := n2_
                have HO_249002 := n3_
                have HO274 := n4_
                have HO279 := n5_
                have HO284 := n6_
                have BK209 := n7_
                have BK210 := n8_
                have BK229 := n9_
                have BK235 := n10_
                have BK241 := n11_
                have BK248 := n12_
                have BK286 := n13_
                have HB := n14_
                clear n0_ n1_ n2_ n3_ n4_ n5_ n6_ n7_ n8_ n9_ n10_ n11_ n12_ n13_ n14_
                (try clear hb)
                (try clear hb2)
                (try clear hk)
                (try clear hi)
                (try clear ho0)
                refine hK.out _ _ ⟨(blk_cell BK209.out 0).trans rfl, (blk_cell BK209.out 1).trans rfl, (blk_cell BK209.out 2).trans rfl, (blk_cell BK210.out 0).trans rfl, (blk_cell BK210.out 1).trans rfl, (blk_cell BK210.out 2).trans rfl⟩ (fun hHeld => ?_)
                clear hK K
                refine norm_ (a' := ?_) ?_ ?_
                rotate_left
                · show Act.put _ (some 99) _ = _
                  simp only [Act.put, List.setIfInBounds_toArray, List.set_cons_zero, List.set_cons_succ, i64_w, i32_w]
                  rfl
                refine pure_ (i := 5) (N := some 94) (v := ?_) (a' := ?_) #[true, true, true, true, true, true, false, false, true, false, false] rfl rfl (any_of HT_.out (by kernel_rfl)) (fun _ _ _ h => h) (Or.inl ⟨by rfl, ?_⟩) ?_ ?_
                rotate_left
                · intro w'
                  go_simp
                  with_reducible rfl
                rotate_left
                · simp only [Act.put, List.setIfInBounds_toArray, List.set_cons_zero, List.set_cons_succ, i64_w, i32_w]
                  rfl
                refine pure_ (i := 6) (N := some 100) (v := ?_) (a' := ?_) #[true, true, true, true, true, true, true, false, true, false, false] rfl rfl (any_of HT_.out (by kernel_rfl)) (fun _ _ _ h => h) (Or.inl ⟨by rfl, ?_⟩) ?_ ?_
                rotate_left
                · intro w'
                  go_simp
                  with_reducible rfl
                rotate_left
                · simp only [Act.put, List.setIfInBounds_toArray, List.set_cons_zero, List.set_cons_succ, i64_w, i32_w]
                  rfl
                refine pure_ (i := 7) (N := some 101) (v := ?_) (a' := ?_) #[true, true, true, true, true, true, true, true, true, false, false] rfl rfl (any_of HT_.out (by kernel_rfl)) (fun _ _ _ h => h) (Or.inl ⟨by rfl, ?_⟩) ?_ ?_
                rotate_left
                · intro w'
                  go_simp
                  with_reducible rfl
                rotate_left
                · simp only [Act.put, List.setIfInBounds_toArray, List.set_cons_zero, List.set_cons_succ, i64_w, i32_w]
                  rfl
                exact norm_ (by simp only [putAll, Act.put, List.setIfInBounds_toArray, List.set_cons_zero, List.set_cons_succ]) (hCont (.slice Ao156 t272.length co156, .slice Ao157 t277.length co157, v283, gb286) _ ⟨hHeld, (by (with_reducible repeat (first | apply Kd.R_alloc | apply Kd.R_drewN | apply Kd.R_drew)); exact Kd.R_mono HO274.out (fun _ hk => ⟨hk.1.2, ⟨hk.2, ⟨hk.1.1.1.1.2, ⟨hk.1.1.1.2, hk.1.1.2⟩⟩⟩⟩)), (by (with_reducible repeat (first | apply Kd.R_alloc | apply Kd.R_drewN | apply Kd.R_drew)); exact Kd.R_mono HO279.out (fun _ hk => ⟨hk.1.2, ⟨hk.2, ⟨hk.1.1.1.1.2, ⟨hk.1.1.1.2, hk.1.1.2⟩⟩⟩⟩)), (by (with_reducible repeat (first | apply Kd.R_alloc | apply Kd.R_drewN | apply Kd.R_drew)); exact Kd.R_mono HO284.out (fun _ hk => ⟨hk.1.2, ⟨hk.2, ⟨hk.1.1.1.1.2, ⟨hk.1.1.1.2, hk.1.1.2⟩⟩⟩⟩)), (by (with_reducible repeat (first | apply Kd.V_alloc | apply Kd.V_drewN | apply Kd.V_drew)); exact Kd.V_mono HO_230002.out (fun _ hk => ⟨hk.1.1.1.2, ⟨hk.1.2, ⟨hk.2, ⟨hk.1.1.1.1.1, ⟨hk.1.1.1.1.2.1, ⟨hk.1.1.1.1.2.2.1, ⟨hk.1.1.1.1.2.2.2.1, ⟨hk.1.1.1.1.2.2.2.2.1, ⟨hk.1.1.1.1.2.2.2.2.2.1, ⟨hk.1.1.1.1.2.2.2.2.2.2.1, ⟨hk.1.1.1.1.2.2.2.2.2.2.2.1, ⟨hk.1.1.1.1.2.2.2.2.2.2.2.2, hk.1.1.2⟩⟩⟩⟩⟩⟩⟩⟩⟩⟩⟩⟩)), (by (with_reducible repeat (first | apply Kd.R_alloc | apply Kd.R_drewN | apply Kd.R_drew)); exact Kd.R_mono HO_236002.out (fun _ hk => ⟨hk.1.1.2, ⟨hk.1.2, ⟨hk.2, ⟨hk.1.1.1.1, hk.1.1.1.2⟩⟩⟩⟩)), (by (with_reducible repeat (first | apply Kd.R_alloc | apply Kd.R_drewN | apply Kd.R_drew)); exact Kd.R_mono HO_242002.out (fun _ hk => ⟨hk.1.1.2, ⟨hk.1.2, ⟨hk.2, ⟨hk.1.1.1.1, hk.1.1.1.2⟩⟩⟩⟩)), (by (with_reducible repeat (first | apply Kd.R_alloc | apply Kd.R_drewN | apply Kd.R_drew)); exact Kd.R_mono HO_249002.out (fun _ hk => ⟨hk.1.1.2, ⟨hk.1.2, ⟨hk.2, ⟨hk.1.1.1.1, hk.1.1.1.2⟩⟩⟩⟩)), (by (with_reducible repeat (first | refine blk_drewN ?_ _ | refine blk_drew ?_ | refine blk_alloc ?_ _)); exact BK209.out), (by (with_reducible repeat (first | refine blk_drewN ?_ _ | refine blk_drew ?_ | refine blk_alloc ?_ _)); exact BK210.out), (by (with_reducible repeat (first | refine blk_drewN ?_ _ | refine blk_drew ?_ | refine blk_alloc ?_ _)); exact BK229.out), (by (with_reducible repeat (first | refine blk_drewN ?_ _ | refine blk_drew ?_ | refine blk_alloc ?_ _)); exact BK235.out), (by (with_reducible repeat (first | refine blk_drewN ?_ _ | refine blk_drew ?_ | refine blk_alloc ?_ _)); exact BK241.out), (by (with_reducible repeat (first | refine blk_drewN ?_ _ | refine blk_drew ?_ | refine blk_alloc ?_ _)); exact BK248.out), (by (with_reducible repeat (first | refine blk_drewN ?_ _ | refine blk_drew ?_ | refine blk_alloc ?_ _)); exact BK286.out), GW286.out, GE286.out, NB209_286.out, NB286_209.out, NB210_286.out, NB286_210.out, NB229_286.out, NB286_229.out, NB235_286.out, NB286_235.out, NB241_286.out, NB286_241.out, NB248_286.out, NB286_248.out, (by repeat (first | (with_reducible first | exact HB.out | apply below_alloc | apply pw_below_drewN | apply below_drew1 | refine below_set ?_ GE209.out | refine below_set ?_ GE210.out | refine below_set ?_ GE229.out | refine below_set ?_ GE235.out | refine below_set ?_ GE241.out | refine below_set ?_ GE248.out | refine below_set ?_ GE286.out) | exact HB.out))⟩)
            · skip
              refine box_step ?hg (N := 15) ?hd (cs := #[.int .i64 0, .bool false, .slice none 0 0]) (t := 34) ?hr ?_; (case hd => rfl); (case hg => rfl); (case hr => first | (go_simp; done) | (go_simp; rfl))
              intro gb286 hg w153 hbox hb
              have n0_ := Aside0.mk (Kd.V_below (Kd.V_elderB (by (with_reducible repeat (first | apply Kd.V_alloc | apply Kd.V_drewN | apply Kd.V_drew)); exact HO_230002.out) gb286 (Nat.le_of_eq hg.symm)) hb)
              have n1_ := Aside0.mk (Kd.R_below (by (with_reducible repeat (first | apply Kd.R_alloc | apply Kd.R_drewN | apply Kd.R_drew)); exact HO_236002.out) hb)
              have n2_ := Aside0.mk (Kd.R_below (by (with_reducible repeat (first | apply Kd.R_alloc | apply Kd.R_drewN | apply Kd.R_drew)); exact HO_242002.out) hb)
              have n3_ := Aside0.mk (Kd.R_below (by (with_reducible repeat (first | apply Kd.R_alloc | apply Kd.R_drewN | apply Kd.R_drew)); exact HO_249002.out) hb)
              have n4_ := Aside0.mk (blk_below (g := gb209) (o := .cells #[.int .i64 a0_0, .bool a0_1, .slice A0_2 l0_2.length c0_2] 32 (0, 0)) (by (with_reducible repeat (first | refine blk_drewN ?_ _ | refine blk_drew ?_ | refine blk_alloc ?_ _)); exact BK209.out) hb)
              have n5_ := Aside0.mk (blk_below (g := gb210) (o := .cells #[.int .i64 a1_0, .bool a1_1, .slice A1_2 l1_2.length c1_2] 32 (0, 0)) (by (with_reducible repeat (first | refine blk_drewN ?_ _ | refine blk_drew ?_ | refine blk_alloc ?_ _)); exact BK210.out) hb)
              have n6_ := Aside0.mk (blk_below (g := gb229) (o := .cells #[.int .i64 t223, .bool t224, .slice Ao43 t225.length co43] 34 (0, 0)) (by (with_reducible repeat (first | refine blk_drewN ?_ _ | refine blk_drew ?_ | refine blk_alloc ?_ _)); exact BK229.out) hb)
              have n7_ := Aside0.mk (blk_below (g := gb235) (o := .cells #[.int .i64 t230, .bool t231, .slice Ao53 t263.length co53] 34 (0, 0)) (by (with_reducible repeat (first | refine blk_drewN ?_ _ | refine blk_drew ?_ | refine blk_alloc ?_ _)); exact BK235.out) hb)
              have n8_ := Aside0.mk (blk_below (g := gb241) (o := .cells #[.int .i64 t236, .bool t237, .slice Ao63 t265.length co63] 34 (0, 0)) (by (with_reducible repeat (first | refine blk_drewN ?_ _ | refine blk_drew ?_ | refine blk_alloc ?_ _)); exact BK241.out) hb)
              have n9_ := Aside0.mk (blk_below (g := gb248) (o := .cells #[.int .i64 t242, .bool t243, .slice Ao73 t244.length co73] 34 (0, 0)) (by (with_reducible repeat (first | refine blk_drewN ?_ _ | refine blk_drew ?_ | refine blk_alloc ?_ _)); exact BK248.out) hb)
              have n10_ := Aside0.mk (below_step (by repeat (first | (with_reducible first | exact HB.out | apply below_alloc | apply pw_below_drewN | apply below_drew1 | refine below_set ?_ GE209.out | refine below_set ?_ GE210.out | refine below_set ?_ GE229.out | refine below_set ?_ GE235.out | refine below_set ?_ GE241.out | refine below_set ?_ GE248.out) | exact HB.out)) hb)
              have n11_ := Aside0.mk (hbox)
              have n12_ := Aside0.mk ((by rw [hg]; exact (below_size (by repeat (first | (with_reducible first | exact HB.out | apply below_alloc | apply pw_below_drewN | apply below_drew1 | refine below_set ?_ GE209.out | refine below_set ?_ GE210.out | refine below_set ?_ GE229.out | refine below_set ?_ GE235.out | refine below_set ?_ GE241.out | refine below_set ?_ GE248.out) | exact HB.out))) : w.heap.size ≤ gb286))
              have n13_ := Aside0.mk ((by rw [hg]; exact (below_size (by repeat (first | (with_reducible first | exact HB.out | apply below_alloc | apply pw_below_drewN | apply below_drew1 | refine below_set ?_ GE209.out | refine below_set ?_ GE210.out | refine below_set ?_ GE229.out | refine below_set ?_ GE235.out | refine below_set ?_ GE241.out | refine below_set ?_ GE248.out) | exact HB.out))) : w.heap.size ≤ gb286))
              have n14_ := Aside0.mk ((by rw [hg]; exact Nat.ne_of_lt (blk_lt (g := gb209) (o := .cells #[.int .i64 a0_0, .bool a0_1, .slice A0_2 l0_2.length c0_2] 32 (0, 0)) (by (with_reducible repeat (first | refine blk_drewN ?_ _ | refine blk_drew ?_ | refine blk_alloc ?_ _)); exact BK209.out)) : gb209 ≠ gb286))
              have n15_ := Aside0.mk ((by rw [hg]; exact Nat.ne_of_gt (blk_lt (g := gb209) (o := .cells #[.int .i64 a0_0, .bool a0_1, .slice A0_2 l0_2.length c0_2] 32 (0, 0)) (by (with_reducible repeat (first | refine blk_drewN ?_ _ | refine blk_drew ?_ | refine blk_alloc ?_ _)); exact BK209.out)) : gb286 ≠ gb209))
              have n16_ := Aside0.mk ((by rw [hg]; exact Nat.ne_of_lt (blk_lt (g := gb210) (o := .cells #[.int .i64 a1_0, .bool a1_1, .slice A1_2 l1_2.length c1_2] 32 (0, 0)) (by (with_reducible repeat (first | refine blk_drewN ?_ _ | refine blk_drew ?_ | refine blk_alloc ?_ _)); exact BK210.out)) : gb210 ≠ gb286))
              have n17_ := Aside0.mk ((by rw [hg]; exact Nat.ne_of_gt (blk_lt (g := gb210) (o := .cells #[.int .i64 a1_0, .bool a1_1, .slice A1_2 l1_2.length c1_2] 32 (0, 0)) (by (with_reducible repeat (first | refine blk_drewN ?_ _ | refine blk_drew ?_ | refine blk_alloc ?_ _)); exact BK210.out)) : gb286 ≠ gb210))
              have n18_ := Aside0.mk ((by rw [hg]; exact Nat.ne_of_lt (blk_lt (g := gb229) (o := .cells #[.int .i64 t223, .bool t224, .slice Ao43 t225.length co43] 34 (0, 0)) (by (with_reducible repeat (first | refine blk_drewN ?_ _ | refine blk_drew ?_ | refine blk_alloc ?_ _)); exact BK229.out)) : gb229 ≠ gb286))
              have n19_ := Aside0.mk ((by rw [hg]; exact Nat.ne_of_gt (blk_lt (g := gb229) (o := .cells #[.int .i64 t223, .bool t224, .slice Ao43 t225.length co43] 34 (0, 0)) (by (with_reducible repeat (first | refine blk_drewN ?_ _ | refine blk_drew ?_ | refine blk_alloc ?_ _)); exact BK229.out)) : gb286 ≠ gb229))
              have n20_ := Aside0.mk ((by rw [hg]; exact Nat.ne_of_lt (blk_lt (g := gb235) (o := .cells #[.int .i64 t230, .bool t231, .slice Ao53 t263.length co53] 34 (0, 0)) (by (with_reducible repeat (first | refine blk_drewN ?_ _ | refine blk_drew ?_ | refine blk_alloc ?_ _)); exact BK235.out)) : gb235 ≠ gb286))
              have n21_ := Aside0.mk ((by rw [hg]; exact Nat.ne_of_gt (blk_lt (g := gb235) (o := .cells #[.int .i64 t230, .bool t231, .slice Ao53 t263.length co53] 34 (0, 0)) (by (with_reducible repeat (first | refine blk_drewN ?_ _ | refine blk_drew ?_ | refine blk_alloc ?_ _)); exact BK235.out)) : gb286 ≠ gb235))
              have n22_ := Aside0.mk ((by rw [hg]; exact Nat.ne_of_lt (blk_lt (g := gb241) (o := .cells #[.int .i64 t236, .bool t237, .slice Ao63 t265.length co63] 34 (0, 0)) (by (with_reducible repeat (first | refine blk_drewN ?_ _ | refine blk_drew ?_ | refine blk_alloc ?_ _)); exact BK241.out)) : gb241 ≠ gb286))
              have n23_ := Aside0.mk ((by rw [hg]; exact Nat.ne_of_gt (blk_lt (g := gb241) (o := .cells #[.int .i64 t236, .bool t237, .slice Ao63 t265.length co63] 34 (0, 0)) (by (with_reducible repeat (first | refine blk_drewN ?_ _ | refine blk_drew ?_ | refine blk_alloc ?_ _)); exact BK241.out)) : gb286 ≠ gb241))
              have n24_ := Aside0.mk ((by rw [hg]; exact Nat.ne_of_lt (blk_lt (g := gb248) (o := .cells #[.int .i64 t242, .bool t243, .slice Ao73 t244.length co73] 34 (0, 0)) (by (with_reducible repeat (first | refine blk_drewN ?_ _ | refine blk_drew ?_ | refine blk_alloc ?_ _)); exact BK248.out)) : gb248 ≠ gb286))
              have n25_ := Aside0.mk ((by rw [hg]; exact Nat.ne_of_gt (blk_lt (g := gb248) (o := .cells #[.int .i64 t242, .bool t243, .slice Ao73 t244.length co73] 34 (0, 0)) (by (with_reducible repeat (first | refine blk_drewN ?_ _ | refine blk_drew ?_ | refine blk_alloc ?_ _)); exact BK248.out)) : gb286 ≠ gb248))
              clear HO_230002
              clear HO_236002
              clear HO_242002
              clear HO_249002
              clear BK209
              clear BK210
              clear BK229
              clear BK235
              clear BK241
              clear BK248
              clear HB
              have HO_230002 := n0_
              have HO_236002 := n1_
              have HO_242002 := n2_
              have HO_249002 := n3_
              have BK209 := n4_
              have BK210 := n5_
              have BK229 := n6_
              have BK235 := n7_
              have BK241 := n8_
              have BK248 := n9_
              have HB := n10_
              have BK286 := n11_
              have GW286 := n12_
              have GE286 := n13_
              have NB209_286 := n14_
              have NB286_209 := n15_
              have NB210_286 := n16_
              have NB286_210 := n17_
              have NB229_286 := n18_
              have NB286_229 := n19_
              have NB235_286 := n20_
              have NB286_235 := n21_
              have NB241_286 := n22_
              have NB286_241 := n23_
              have NB248_286 := n24_
              have NB286_248 := n25_
              clear n0_ n1_ n2_ n3_ n4_ n5_ n6_ n7_ n8_ n9_ n10_ n11_ n12_ n13_ n14_ n15_ n16_ n17_ n18_ n19_ n20_ n21_ n22_ n23_ n24_ n25_
              clear hb hbox hg
              refine hK.out _ _ ⟨(blk_cell BK209.out 0).trans rfl, (blk_cell BK209.out 1).trans rfl, (blk_cell BK209.out 2).trans rfl, (blk_cell BK210.out 0).trans rfl, (blk_cell BK210.out 1).trans rfl, (blk_cell BK210.out 2).trans rfl⟩ (fun hHeld => ?_)
              clear hK K
              refine norm_ (a' := ?_) ?_ ?_
              rotate_left
              · show Act.put _ (some 15) _ = _
                simp only [Act.put, List.setIfInBounds_toArray, List.set_cons_zero, List.set_cons_succ, i64_w, i32_w]
                rfl
              refine one_ (i := 1) (N := some 96) #[true, true, true, false, false, false, false, false, true, false, false] rfl rfl (one_of HT_.out (by kernel_rfl)) (by decide) (fun K hK => ?_)
              refine goes_ Tryd.func18 (by kernel_rfl) rfl #[.agg #[.int .i64 a0_0, .bool a0_1, .slice A0_2 l0_2.length c0_2]] (by rfl) rfl rfl (by (try simp only [List.map_toArray, List.map_cons, List.map_nil]); first | done | rfl | (simp only [List.length_drop, List.length_take]; rfl)) ?_
              with_reducible refine (laws_toRow.calls kj96 a0_0 a0_1 _ _ l0_2 t270 t271 t272 _ ?side1 ?side2 A139.out).mono ?_
              (case side1 => repeat (first | exact (Kd.C_below HR0_2.out HB.out) | (with_reducible refine Kd.C_alloc ?_ _) | (with_reducible refine Kd.C_drewN ?_ _) | (with_reducible refine Kd.C_drew ?_)))
              (case side2 => exact HC0_2.out)
              rintro e w154 ⟨v273, rfl, ho0, hb⟩
              refine ⟨_, rfl, ?_⟩
              have n0_ := Aside0.mk (Kd.V_elder' (by (with_reducible repeat (first | apply Kd.V_alloc | apply Kd.V_drewN | apply Kd.V_drew)); exact HO_230002.out) (Kd.R_base ho0) hb)
              have n1_ := Aside0.mk (Kd.R_elder' (by (with_reducible repeat (first | apply Kd.R_alloc | apply Kd.R_drewN | apply Kd.R_drew)); exact HO_236002.out) (Kd.R_base ho0) hb)
              have n2_ := Aside0.mk (Kd.R_elder' (by (with_reducible repeat (first | apply Kd.R_alloc | apply Kd.R_drewN | apply Kd.R_drew)); exact HO_242002.out) (Kd.R_base ho0) hb)
              have n3_ := Aside0.mk (Kd.R_elder' (by (with_reducible repeat (first | apply Kd.R_alloc | apply Kd.R_drewN | apply Kd.R_drew)); exact HO_249002.out) (Kd.R_base ho0) hb)
              have n4_ := Aside0.mk (Kd.R_lower (Kd.R_new' (Kd.R_new' (Kd.R_new' ho0 (Kd.R_lt (by (with_reducible repeat (first | apply Kd.R_alloc | apply Kd.R_drewN | apply Kd.R_drew)); exact HO_236002.out))) (Kd.R_lt (by (with_reducible repeat (first | apply Kd.R_alloc | apply Kd.R_drewN | apply Kd.R_drew)); exact HO_242002.out))) (Kd.R_lt (by (with_reducible repeat (first | apply Kd.R_alloc | apply Kd.R_drewN | apply Kd.R_drew)); exact HO_249002.out))) (below_size (by repeat (first | (with_reducible first | exact HB.out | apply below_alloc | apply pw_below_drewN | apply below_drew1 | refine below_set ?_ GE209.out | refine below_set ?_ GE210.out | refine below_set ?_ GE229.out | refine below_set ?_ GE235.out | refine below_set ?_ GE241.out | refine below_set ?_ GE248.out | refine below_set ?_ GE286.out) | exact HB.out))))
              have n5_ := Aside0.mk (blk_below (g := gb209) (o := .cells #[.int .i64 a0_0, .bool a0_1, .slice A0_2 l0_2.length c0_2] 32 (0, 0)) (by (with_reducible repeat (first | refine blk_drewN ?_ _ | refine blk_drew ?_ | refine blk_alloc ?_ _)); exact BK209.out) hb)
              have n6_ := Aside0.mk (blk_below (g := gb210) (o := .cells #[.int .i64 a1_0, .bool a1_1, .slice A1_2 l1_2.length c1_2] 32 (0, 0)) (by (with_reducible repeat (first | refine blk_drewN ?_ _ | refine blk_drew ?_ | refine blk_alloc ?_ _)); exact BK210.out) hb)
              have n7_ := Aside0.mk (blk_below (g := gb229) (o := .cells #[.int .i64 t223, .bool t224, .slice Ao43 t225.length co43] 34 (0, 0)) (by (with_reducible repeat (first | refine blk_drewN ?_ _ | refine blk_drew ?_ | refine blk_alloc ?_ _)); exact BK229.out) hb)
              have n8_ := Aside0.mk (blk_below (g := gb235) (o := .cells #[.int .i64 t230, .bool t231, .slice Ao53 t263.length co53] 34 (0, 0)) (by (with_reducible repeat (first | refine blk_drewN ?_ _ | refine blk_drew ?_ | refine blk_alloc ?_ _)); exact BK235.out) hb)
              have n9_ := Aside0.mk (blk_below (g := gb241) (o := .cells #[.int .i64 t236, .bool t237, .slice Ao63 t265.length co63] 34 (0, 0)) (by (with_reducible repeat (first | refine blk_drewN ?_ _ | refine blk_drew ?_ | refine blk_alloc ?_ _)); exact BK241.out) hb)
              have n10_ := Aside0.mk (blk_below (g := gb248) (o := .cells #[.int .i64 t242, .bool t243, .slice Ao73 t244.length co73] 34 (0, 0)) (by (with_reducible repeat (first | refine blk_drewN ?_ _ | refine blk_drew ?_ | refine blk_alloc ?_ _)); exact BK248.out) hb)
              have n11_ := Aside0.mk (blk_below (g := gb286) (o := .cells #[.int .i64 0, .bool false, .slice none 0 0] 34 (0, 0)) (by (with_reducible repeat (first | refine blk_drewN ?_ _ | refine blk_drew ?_ | refine blk_alloc ?_ _)); exact BK286.out) hb)
              have n12_ := Aside0.mk (below_step (by repeat (first | (with_reducible first | exact HB.out | apply below_alloc | apply pw_below_drewN | apply below_drew1 | refine below_set ?_ GE209.out | refine below_set ?_ GE210.out | refine below_set ?_ GE229.out | refine below_set ?_ GE235.out | refine below_set ?_ GE241.out | refine below_set ?_ GE248.out | refine below_set ?_ GE286.out) | exact HB.out)) hb)
              clear HO_230002
              clear HO_236002
              clear HO_242002
              clear HO_249002
              clear BK209
              clear BK210
              clear BK229
              clear BK235
              clear BK241
              clear BK248
              clear BK286
              clear HB
              have HO_230002 := n0_
              have HO_236002 := n1_
              have HO_242002 := n2_
              have HO_249002 := n3_
              have HO274 := n4_
              have BK209 := n5_
              have BK210 := n6_
              have BK229 := n7_
              have BK235 := n8_
              have BK241 := n9_
              have BK248 := n10_
              have BK286 := n11_
              have HB := n12_
              clear n0_ n1_ n2_ n3_ n4_ n5_ n6_ n7_ n8_ n9_ n10_ n11_ n12_
              (try clear hb)
              (try clear hb2)
              (try clear hk)
              (try clear hi)
              (try clear ho0)
              refine hK.out _ _ ⟨(blk_cell BK209.out 0).trans rfl, (blk_cell BK209.out 1).trans rfl, (blk_cell BK209.out 2).trans rfl, (blk_cell BK210.out 0).trans rfl, (blk_cell BK210.out 1).trans rfl, (blk_cell BK210.out 2).trans rfl⟩ (fun hHeld => ?_)
              clear hK K
              refine norm_ (a' := ?_) ?_ ?_
              rotate_left
              · show Act.put _ (some 96) _ = _
                simp only [Act.put, List.setIfInBounds_toArray, List.set_cons_zero, List.set_cons_succ, i64_w, i32_w]
                rfl
              refine one_ (i := 3) (N := some 98) #[true, true, true, true, false, false, false, false, true, false, false] rfl rfl (one_of HT_.out (by kernel_rfl)) (by decide) (fun K hK => ?_)
              refine goes_ Tryd.func18 (by kernel_rfl) rfl #[.agg #[.int .i64 a1_0, .bool a1_1, .slice A1_2 l1_2.length c1_2]] (by rfl) rfl rfl (by (try simp only [List.map_toArray, List.map_cons, List.map_nil]); first | done | rfl | (simp only [List.length_drop, List.length_take]; rfl)) ?_
              with_reducible refine (laws_toRow.calls kj96 a1_0 a1_1 _ _ l1_2 t275 t276 t277 _ ?side1 ?side2 A140.out).mono ?_
              (case side1 => repeat (first | exact (Kd.C_below HR1_2.out HB.out) | (with_reducible refine Kd.C_alloc ?_ _) | (with_reducible refine Kd.C_drewN ?_ _) | (with_reducible refine Kd.C_drew ?_)))
              (case side2 => exact HC1_2.out)
              rintro e w155 ⟨v278, rfl, ho0, hb⟩
              refine ⟨_, rfl, ?_⟩
              have n0_ := Aside0.mk (Kd.V_elder' (by (with_reducible repeat (first | apply Kd.V_alloc | apply Kd.V_drewN | apply Kd.V_drew)); exact HO_230002.out) (Kd.R_base ho0) hb)
              have n1_ := Aside0.mk (Kd.R_elder' (by (with_reducible repeat (first | apply Kd.R_alloc | apply Kd.R_drewN | apply Kd.R_drew)); exact HO_236002.out) (Kd.R_base ho0) hb)
              have n2_ := Aside0.mk (Kd.R_elder' (by (with_reducible repeat (first | apply Kd.R_alloc | apply Kd.R_drewN | apply Kd.R_drew)); exact HO_242002.out) (Kd.R_base ho0) hb)
              have n3_ := Aside0.mk (Kd.R_elder' (by (with_reducible repeat (first | apply Kd.R_alloc | apply Kd.R_drewN | apply Kd.R_drew)); exact HO_249002.out) (Kd.R_base ho0) hb)
              have n4_ := Aside0.mk (Kd.R_elder' (by (with_reducible repeat (first | apply Kd.R_alloc | apply Kd.R_drewN | apply Kd.R_drew)); exact HO274.out) (Kd.R_base ho0) hb)
              have n5_ := Aside0.mk (Kd.R_lower (Kd.R_new' (Kd.R_new' (Kd.R_new' (Kd.R_new' ho0 (Kd.R_lt (by (with_reducible repeat (first | apply Kd.R_alloc | apply Kd.R_drewN | apply Kd.R_drew)); exact HO_236002.out))) (Kd.R_lt (by (with_reducible repeat (first | apply Kd.R_alloc | apply Kd.R_drewN | apply Kd.R_drew)); exact HO_242002.out))) (Kd.R_lt (by (with_reducible repeat (first | apply Kd.R_alloc | apply Kd.R_drewN | apply Kd.R_drew)); exact HO_249002.out))) (Kd.R_lt (by (with_reducible repeat (first | apply Kd.R_alloc | apply Kd.R_drewN | apply Kd.R_drew)); exact HO274.out))) (below_size (by repeat (first | (with_reducible first | exact HB.out | apply below_alloc | apply pw_below_drewN | apply below_drew1 | refine below_set ?_ GE209.out | refine below_set ?_ GE210.out | refine below_set ?_ GE229.out | refine below_set ?_ GE235.out | refine below_set ?_ GE241.out | refine below_set ?_ GE248.out | refine below_set ?_ GE286.out) | exact HB.out))))
              have n6_ := Aside0.mk (blk_below (g := gb209) (o := .cells #[.int .i64 a0_0, .bool a0_1, .slice A0_2 l0_2.length c0_2] 32 (0, 0)) (by (with_reducible repeat (first | refine blk_drewN ?_ _ | refine blk_drew ?_ | refine blk_alloc ?_ _)); exact BK209.out) hb)
              have n7_ := Aside0.mk (blk_below (g := gb210) (o := .cells #[.int .i64 a1_0, .bool a1_1, .slice A1_2 l1_2.length c1_2] 32 (0, 0)) (by (with_reducible repeat (first | refine blk_drewN ?_ _ | refine blk_drew ?_ | refine blk_alloc ?_ _)); exact BK210.out) hb)
              have n8_ := Aside0.mk (blk_below (g := gb229) (o := .cells #[.int .i64 t223, .bool t224, .slice Ao43 t225.length co43] 34 (0, 0)) (by (with_reducible repeat (first | refine blk_drewN ?_ _ | refine blk_drew ?_ | refine blk_alloc ?_ _)); exact BK229.out) hb)
              have n9_ := Aside0.mk (blk_below (g := gb235) (o := .cells #[.int .i64 t230, .bool t231, .slice Ao53 t263.length co53] 34 (0, 0)) (by (with_reducible repeat (first | refine blk_drewN ?_ _ | refine blk_drew ?_ | refine blk_alloc ?_ _)); exact BK235.out) hb)
              have n10_ := Aside0.mk (blk_below (g := gb241) (o := .cells #[.int .i64 t236, .bool t237, .slice Ao63 t265.length co63] 34 (0, 0)) (by (with_reducible repeat (first | refine blk_drewN ?_ _ | refine blk_drew ?_ | refine blk_alloc ?_ _)); exact BK241.out) hb)
              have n11_ := Aside0.mk (blk_below (g := gb248) (o := .cells #[.int .i64 t242, .bool t243, .slice Ao73 t244.length co73] 34 (0, 0)) (by (with_reducible repeat (first | refine blk_drewN ?_ _ | refine blk_drew ?_ | refine blk_alloc ?_ _)); exact BK248.out) hb)
              have n12_ := Aside0.mk (blk_below (g := gb286) (o := .cells #[.int .i64 0, .bool false, .slice none 0 0] 34 (0, 0)) (by (with_reducible repeat (first | refine blk_drewN ?_ _ | refine blk_drew ?_ | refine blk_alloc ?_ _)); exact BK286.out) hb)
              have n13_ := Aside0.mk (below_step (by repeat (first | (with_reducible first | exact HB.out | apply below_alloc | apply pw_below_drewN | apply below_drew1 | refine below_set ?_ GE209.out | refine below_set ?_ GE210.out | refine below_set ?_ GE229.out | refine below_set ?_ GE235.out | refine below_set ?_ GE241.out | refine below_set ?_ GE248.out | refine below_set ?_ GE286.out) | exact HB.out)) hb)
              clear HO_230002
              clear HO_236002
              clear HO_242002
              clear HO_249002
              clear HO274
              clear BK209
              clear BK210
              clear BK229
              clear BK235
              clear BK241
              clear BK248
              clear BK286
              clear HB
              have HO_230002 := n0_
              have HO_236002 := n1_
              have HO_242002 := n2_
              have HO_249002 := n3_
              have HO274 := n4_
              have HO279 := n5_
              have BK209 := n6_
              have BK210 := n7_
              have BK229 := n8_
              have BK235 := n9_
              have BK241 := n10_
              have BK248 := n11_
              have BK286 := n12_
              have HB := n13_
              clear n0_ n1_ n2_ n3_ n4_ n5_ n6_ n7_ n8_ n9_ n10_ n11_ n12_ n13_
              (try clear hb)
              (try clear hb2)
              (try clear hk)
              (try clear hi)
              (try clear ho0)
              obtain ⟨Ao156, co156, eo156⟩ := Kd.R_slice HO274.out
              (first | subst eo156 | (injection eo156 with f1_ f2_ f3_; have f4_ := f1_.symm; have f5_ := f3_.symm; clear f1_ f2_ f3_; subst f4_; subst f5_))
              obtain ⟨Ao157, co157, eo157⟩ := Kd.R_slice HO279.out
              (first | subst eo157 | (injection eo157 with f1_ f2_ f3_; have f4_ := f1_.symm; have f5_ := f3_.symm; clear f1_ f2_ f3_; subst f4_; subst f5_))
              refine hK.out _ _ ⟨(blk_cell BK209.out 0).trans rfl, (blk_cell BK209.out 1).trans rfl, (blk_cell BK209.out 2).trans rfl, (blk_cell BK210.out 0).trans rfl, (blk_cell BK210.out 1).trans rfl, (blk_cell BK210.out 2).trans rfl⟩ (fun hHeld => ?_)
              clear hK K
              refine norm_ (a' := ?_) ?_ ?_
              rotate_left
              · show Act.put _ (some 98) _ = _
                simp only [Act.put, List.setIfInBounds_toArray, List.set_cons_zero, List.set_cons_succ, i64_w, i32_w]
                rfl
              refine one_ (i := 4) (N := some 99) #[true, true, true, true, true, false, false, false, true, false, false] rfl rfl (one_of HT_.out (by kernel_rfl)) (by decide) (fun K hK => ?_)
              refine goes_ Tryd.func24 (by kernel_rfl) rfl #[.agg #[.int .i64 t270, .bool t271, .slice Ao156 t272.length co156], .agg #[.int .i64 t275, .bool t276, .slice Ao157 t277.length co157]] (by rfl) rfl rfl (by (try simp only [List.map_toArray, List.map_cons, List.map_nil]); first | done | rfl | (simp only [List.length_drop, List.length_take]; rfl)) ?_
              with_reducible refine (impl_JoinSeats.calls kj96 t270 t271 _ _ t272 t275 t276 _ _ t277 t280 t281 t282 t285 _ ?side1 ?side2 ?side3 ?side4 ?side5 A141.out).mono ?_
              (case side1 => repeat (first | exact (Kd.R_reads' HO274.out).2.2 | (with_reducible refine Kd.C_alloc ?_ _) | (with_reducible refine Kd.C_drewN ?_ _) | (with_reducible refine Kd.C_drew ?_)))
              (case side2 => exact (Kd.R_reads' HO274.out).2.1)
              (case side3 => repeat (first | exact (Kd.R_reads' HO279.out).2.2 | (with_reducible refine Kd.C_alloc ?_ _) | (with_reducible refine Kd.C_drewN ?_ _) | (with_reducible refine Kd.C_drew ?_)))
              (case side4 => exact (Kd.R_reads' HO279.out).2.1)
              (case side5 => first | exact HT.out | exact XTab.below HT.out (by repeat (first | (with_reducible first | exact HB.out | apply below_alloc | apply pw_below_drewN | apply below_drew1 | refine below_set ?_ GE209.out | refine below_set ?_ GE210.out | refine below_set ?_ GE229.out | refine below_set ?_ GE235.out | refine below_set ?_ GE241.out | refine below_set ?_ GE248.out | refine below_set ?_ GE286.out) | exact HB.out)) | (repeat (first | exact HT.out | apply XTab.drewN | apply XTab.drew | apply XTab.alloc)))
              rintro e w158 ⟨v283, rfl, ho0, hb⟩
              refine ⟨_, rfl, ?_⟩
              have n0_ := Aside0.mk (Kd.V_elder' (by (with_reducible repeat (first | apply Kd.V_alloc | apply Kd.V_drewN | apply Kd.V_drew)); exact HO_230002.out) (Kd.R_base ho0) hb)
              have n1_ := Aside0.mk (Kd.R_elder' (by (with_reducible repeat (first | apply Kd.R_alloc | apply Kd.R_drewN | apply Kd.R_drew)); exact HO_236002.out) (Kd.R_base ho0) hb)
              have n2_ := Aside0.mk (Kd.R_elder' (by (with_reducible repeat (first | apply Kd.R_alloc | apply Kd.R_drewN | apply Kd.R_drew)); exact HO_242002.out) (Kd.R_base ho0) hb)
              have n3_ := Aside0.mk (Kd.R_elder' (by (with_reducible repeat (first | apply Kd.R_alloc | apply Kd.R_drewN | apply Kd.R_drew)); exact HO_249002.out) (Kd.R_base ho0) hb)
              have n4_ := Aside0.mk (Kd.R_elder' (by (with_reducible repeat (first | apply Kd.R_alloc | apply Kd.R_drewN | apply Kd.R_drew)); exact HO274.out) (Kd.R_base ho0) hb)
              have n5_ := Aside0.mk (Kd.R_elder' (by (with_reducible repeat (first | apply Kd.R_alloc | apply Kd.R_drewN | apply Kd.R_drew)); exact HO279.out) (Kd.R_base ho0) hb)
              have n6_ := Aside0.mk (Kd.R_lower (Kd.R_new' (Kd.R_new' (Kd.R_new' (Kd.R_new' (Kd.R_new' ho0 (Kd.R_lt (by (with_reducible repeat (first | apply Kd.R_alloc | apply Kd.R_drewN | apply Kd.R_drew)); exact HO_236002.out))) (Kd.R_lt (by (with_reducible repeat (first | apply Kd.R_alloc | apply Kd.R_drewN | apply Kd.R_drew)); exact HO_242002.out))) (Kd.R_lt (by (with_reducible repeat (first | apply Kd.R_alloc | apply Kd.R_drewN | apply Kd.R_drew)); exact HO_249002.out))) (Kd.R_lt (by (with_reducible repeat (first | apply Kd.R_alloc | apply Kd.R_drewN | apply Kd.R_drew)); exact HO274.out))) (Kd.R_lt (by (with_reducible repeat (first | apply Kd.R_alloc | apply Kd.R_drewN | apply Kd.R_drew)); exact HO279.out))) (below_size (by repeat (first | (with_reducible first | exact HB.out | apply below_alloc | apply pw_below_drewN | apply below_drew1 | refine below_set ?_ GE209.out | refine below_set ?_ GE210.out | refine below_set ?_ GE229.out | refine below_set ?_ GE235.out | refine below_set ?_ GE241.out | refine below_set ?_ GE248.out | refine below_set ?_ GE286.out) | exact HB.out))))
              have n7_ := Aside0.mk (blk_below (g := gb209) (o := .cells #[.int .i64 a0_0, .bool a0_1, .slice A0_2 l0_2.length c0_2] 32 (0, 0)) (by (with_reducible repeat (first | refine blk_drewN ?_ _ | refine blk_drew ?_ | refine blk_alloc ?_ _)); exact BK209.out) hb)
              have n8_ := Aside0.mk (blk_below (g := gb210) (o := .cells #[.int .i64 a1_0, .bool a1_1, .slice A1_2 l1_2.length c1_2] 32 (0, 0)) (by (with_reducible repeat (first | refine blk_drewN ?_ _ | refine blk_drew ?_ | refine blk_alloc ?_ _)); exact BK210.out) hb)
              have n9_ := Aside0.mk (blk_below (g := gb229) (o := .cells #[.int .i64 t223, .bool t224, .slice Ao43 t225.length co43] 34 (0, 0)) (by (with_reducible repeat (first | refine blk_drewN ?_ _ | refine blk_drew ?_ | refine blk_alloc ?_ _)); exact BK229.out) hb)
              have n10_ := Aside0.mk (blk_below (g := gb235) (o := .cells #[.int .i64 t230, .bool t231, .slice Ao53 t263.length co53] 34 (0, 0)) (by (with_reducible repeat (first | refine blk_drewN ?_ _ | refine blk_drew ?_ | refine blk_alloc ?_ _)); exact BK235.out) hb)
              have n11_ := Aside0.mk (blk_below (g := gb241) (o := .cells #[.int .i64 t236, .bool t237, .slice Ao63 t265.length co63] 34 (0, 0)) (by (with_reducible repeat (first | refine blk_drewN ?_ _ | refine blk_drew ?_ | refine blk_alloc ?_ _)); exact BK241.out) hb)
              have n12_ := Aside0.mk (blk_below (g := gb248) (o := .cells #[.int .i64 t242, .bool t243, .slice Ao73 t244.length co73] 34 (0, 0)) (by (with_reducible repeat (first | refine blk_drewN ?_ _ | refine blk_drew ?_ | refine blk_alloc ?_ _)); exact BK248.out) hb)
              have n13_ := Aside0.mk (blk_below (g := gb286) (o := .cells #[.int .i64 0, .bool false, .slice none 0 0] 34 (0, 0)) (by (with_reducible repeat (first | refine blk_drewN ?_ _ | refine blk_drew ?_ | refine blk_alloc ?_ _)); exact BK286.out) hb)
              have n14_ := Aside0.mk (below_step (by repeat (first | (with_reducible first | exact HB.out | apply below_alloc | apply pw_below_drewN | apply below_drew1 | refine below_set ?_ GE209.out | refine below_set ?_ GE210.out | refine below_set ?_ GE229.out | refine below_set ?_ GE235.out | refine below_set ?_ GE241.out | refine below_set ?_ GE248.out | refine below_set ?_ GE286.out) | exact HB.out)) hb)
              clear HO_230002
              clear HO_236002
              clear HO_242002
              clear HO_249002
              clear HO274
              clear HO279
              clear BK209
              clear BK210
              clear BK229
              clear BK235
              clear BK241
              clear BK248
              clear BK286
              clear HB
              have HO_230002 := n0_
              have HO_236002 := n1_
              have HO_242002 := n2_
              have HO_249002 := n3_
              have HO274 := n4_
              have HO279 := n5_
              have HO284 := n6_
              have BK209 := n7_
              have BK210 := n8_
              have BK229 := n9_
              have BK235 := n10_
              have BK241 := n11_
              have BK248 := n12_
              have BK286 := n13_
              have HB := n14_
              clear n0_ n1_ n2_ n3_ n4_ n5_ n6_ n7_ n8_ n9_ n10_ n11_ n12_ n13_ n14_
              (try clear hb)
              (try clear hb2)
              (try clear hk)
              (try clear hi)
              (try clear ho0)
              refine hK.out _ _ ⟨(blk_cell BK209.out 0).trans rfl, (blk_cell BK209.out 1).trans rfl, (blk_cell BK209.out 2).trans rfl, (blk_cell BK210.out 0).trans rfl, (blk_cell BK210.out 1).trans rfl, (blk_cell BK210.out 2).trans rfl⟩ (fun hHeld => ?_)
              clear hK K
              refine norm_ (a' := ?_) ?_ ?_
              rotate_left
              · show Act.put _ (some 99) _ = _
                simp only [Act.put, List.setIfInBounds_toArray, List.set_cons_zero, List.set_cons_succ, i64_w, i32_w]
                rfl
              refine pure_ (i := 5) (N := some 94) (v := ?_) (a' := ?_) #[true, true, true, true, true, true, false, false, true, false, false] rfl rfl (any_of HT_.out (by kernel_rfl)) (fun _ _ _ h => h) (Or.inl ⟨by rfl, ?_⟩) ?_ ?_
              rotate_left
              · intro w'
                go_simp
                with_reducible rfl
              rotate_left
              · simp only [Act.put, List.setIfInBounds_toArray, List.set_cons_zero, List.set_cons_succ, i64_w, i32_w]
                rfl
              refine pure_ (i := 6) (N := some 100) (v := ?_) (a' := ?_) #[true, true, true, true, true, true, true, false, true, false, false] rfl rfl (any_of HT_.out (by kernel_rfl)) (fun _ _ _ h => h) (Or.inl ⟨by rfl, ?_⟩) ?_ ?_
              rotate_left
              · intro w'
                go_simp
                with_reducible rfl
              rotate_left
              · simp only [Act.put, List.setIfInBounds_toArray, List.set_cons_zero, List.set_cons_succ, i64_w, i32_w]
                rfl
              refine pure_ (i := 7) (N := some 101) (v := ?_) (a' := ?_) #[true, true, true, true, true, true, true, true, true, false, false] rfl rfl (any_of HT_.out (by kernel_rfl)) (fun _ _ _ h => h) (Or.inl ⟨by rfl, ?_⟩) ?_ ?_
              rotate_left
              · intro w'
                go_simp
                with_reducible rfl
              rotate_left
              · simp only [Act.put, List.setIfInBounds_toArray, List.set_cons_zero, List.set_cons_succ, i64_w, i32_w]
                rfl
              exact norm_ (by simp only [putAll, Act.put, List.setIfInBounds_toArray, List.set_cons_zero, List.set_cons_succ]) (hCont (.slice Ao156 t272.length co156, .slice Ao157 t277.length co157, v283, gb286) _ ⟨hHeld, (by (with_reducible repeat (first | apply Kd.R_alloc | apply Kd.R_drewN | apply Kd.R_drew)); exact Kd.R_mono HO274.out (fun _ hk => ⟨hk.1.2, ⟨hk.2, ⟨hk.1.1.1.1.2, ⟨hk.1.1.1.2, hk.1.1.2⟩⟩⟩⟩)), (by (with_reducible repeat (first | apply Kd.R_alloc | apply Kd.R_drewN | apply Kd.R_drew)); exact Kd.R_mono HO279.out (fun _ hk => ⟨hk.1.2, ⟨hk.2, ⟨hk.1.1.1.1.2, ⟨hk.1.1.1.2, hk.1.1.2⟩⟩⟩⟩)), (by (with_reducible repeat (first | apply Kd.R_alloc | apply Kd.R_drewN | apply Kd.R_drew)); exact Kd.R_mono HO284.out (fun _ hk => ⟨hk.1.2, ⟨hk.2, ⟨hk.1.1.1.1.2, ⟨hk.1.1.1.2, hk.1.1.2⟩⟩⟩⟩)), (by (with_reducible repeat (first | apply Kd.V_alloc | apply Kd.V_drewN | apply Kd.V_drew)); exact Kd.V_mono HO_230002.out (fun _ hk => ⟨hk.1.1.2, ⟨hk.1.2, ⟨hk.2, ⟨hk.1.1.1.1.1, ⟨hk.1.1.1.1.2.1, ⟨hk.1.1.1.1.2.2.1, ⟨hk.1.1.1.1.2.2.2.1, ⟨hk.1.1.1.1.2.2.2.2.1, ⟨hk.1.1.1.1.2.2.2.2.2.1, ⟨hk.1.1.1.1.2.2.2.2.2.2.1, ⟨hk.1.1.1.1.2.2.2.2.2.2.2.1, ⟨hk.1.1.1.1.2.2.2.2.2.2.2.2, hk.1.1.1.2⟩⟩⟩⟩⟩⟩⟩⟩⟩⟩⟩⟩)), (by (with_reducible repeat (first | apply Kd.R_alloc | apply Kd.R_drewN | apply Kd.R_drew)); exact Kd.R_mono HO_236002.out (fun _ hk => ⟨hk.1.1.2, ⟨hk.1.2, ⟨hk.2, ⟨hk.1.1.1.1, hk.1.1.1.2⟩⟩⟩⟩)), (by (with_reducible repeat (first | apply Kd.R_alloc | apply Kd.R_drewN | apply Kd.R_drew)); exact Kd.R_mono HO_242002.out (fun _ hk => ⟨hk.1.1.2, ⟨hk.1.2, ⟨hk.2, ⟨hk.1.1.1.1, hk.1.1.1.2⟩⟩⟩⟩)), (by (with_reducible repeat (first | apply Kd.R_alloc | apply Kd.R_drewN | apply Kd.R_drew)); exact Kd.R_mono HO_249002.out (fun _ hk => ⟨hk.1.1.2, ⟨hk.1.2, ⟨hk.2, ⟨hk.1.1.1.1, hk.1.1.1.2⟩⟩⟩⟩)), (by (with_reducible repeat (first | refine blk_drewN ?_ _ | refine blk_drew ?_ | refine blk_alloc ?_ _)); exact BK209.out), (by (with_reducible repeat (first | refine blk_drewN ?_ _ | refine blk_drew ?_ | refine blk_alloc ?_ _)); exact BK210.out), (by (with_reducible repeat (first | refine blk_drewN ?_ _ | refine blk_drew ?_ | refine blk_alloc ?_ _)); exact BK229.out), (by (with_reducible repeat (first | refine blk_drewN ?_ _ | refine blk_drew ?_ | refine blk_alloc ?_ _)); exact BK235.out), (by (with_reducible repeat (first | refine blk_drewN ?_ _ | refine blk_drew ?_ | refine blk_alloc ?_ _)); exact BK241.out), (by (with_reducible repeat (first | refine blk_drewN ?_ _ | refine blk_drew ?_ | refine blk_alloc ?_ _)); exact BK248.out), (by (with_reducible repeat (first | refine blk_drewN ?_ _ | refine blk_drew ?_ | refine blk_alloc ?_ _)); exact BK286.out), GW286.out, GE286.out, NB209_286.out, NB286_209.out, NB210_286.out, NB286_210.out, NB229_286.out, NB286_229.out, NB235_286.out, NB286_235.out, NB241_286.out, NB286_241.out, NB248_286.out, NB286_248.out, (by repeat (first | (with_reducible first | exact HB.out | apply below_alloc | apply pw_below_drewN | apply below_drew1 | refine below_set ?_ GE209.out | refine below_set ?_ GE210.out | refine below_set ?_ GE229.out | refine below_set ?_ GE235.out | refine below_set ?_ GE241.out | refine below_set ?_ GE248.out | refine below_set ?_ GE286.out) | exact HB.out))⟩)
          rintro ⟨v273, v278, v283, gb286⟩ w159 ⟨hS_, h0_, h1_, h2_, h3_, h4_, h5_, h6_, h7_, h8_, h9_, h10_, h11_, h12_, h13_, h14_, h15_, h16_, h17_, h18_, h19_, h20_, h21_, h22_, h23_, h24_, h25_, h26_, h27_, h28_⟩
          have n0_ : Aside0 (Kd.R (Kd.int .i64) 3 w159 w.heap.size (fun k_ => some k_ ≠ (v278 : Value).ownBlock ∧ some k_ ≠ (v283 : Value).ownBlock ∧ some k_ ≠ (.slice Ao53 t263.length co53 : Value).ownBlock ∧ some k_ ≠ (.slice Ao63 t265.length co63 : Value).ownBlock ∧ some k_ ≠ (.slice Ao73 t244.length co73 : Value).ownBlock) v273 t272) := ⟨h0_⟩
          have n1_ : Aside0 (Kd.R (Kd.int .i64) 3 w159 w.heap.size (fun k_ => some k_ ≠ (v273 : Value).ownBlock ∧ some k_ ≠ (v283 : Value).ownBlock ∧ some k_ ≠ (.slice Ao53 t263.length co53 : Value).ownBlock ∧ some k_ ≠ (.slice Ao63 t265.length co63 : Value).ownBlock ∧ some k_ ≠ (.slice Ao73 t244.length co73 : Value).ownBlock) v278 t277) := ⟨h1_⟩
          have n2_ : Aside0 (Kd.R (Kd.int .i64) 3 w159 w.heap.size (fun k_ => some k_ ≠ (v273 : Value).ownBlock ∧ some k_ ≠ (v278 : Value).ownBlock ∧ some k_ ≠ (.slice Ao53 t263.length co53 : Value).ownBlock ∧ some k_ ≠ (.slice Ao63 t265.length co63 : Value).ownBlock ∧ some k_ ≠ (.slice Ao73 t244.length co73 : Value).ownBlock) v283 t282) := ⟨h2_⟩
          have n3_ : Aside0 (Kd.V (Kd.int .i64) 3 w159 w.heap.size (fun k_ => some k_ ≠ (v273 : Value).ownBlock ∧ some k_ ≠ (v278 : Value).ownBlock ∧ some k_ ≠ (v283 : Value).ownBlock ∧ some k_ ≠ (.slice Ao53 t263.length co53 : Value).ownBlock ∧ some k_ ≠ (.slice Ao63 t265.length co63 : Value).ownBlock ∧ some k_ ≠ (.slice Ao73 t244.length co73 : Value).ownBlock ∧ k_ ≠ gb209 ∧ k_ ≠ gb210 ∧ k_ ≠ gb229 ∧ k_ ≠ gb235 ∧ k_ ≠ gb241 ∧ k_ ≠ gb248 ∧ k_ ≠ gb286) (.slice Ao43 t225.length co43) t225) := ⟨h3_⟩
          have n4_ : Aside0 (Kd.R (Kd.int .i64) 3 w159 w.heap.size (fun k_ => some k_ ≠ (v273 : Value).ownBlock ∧ some k_ ≠ (v278 : Value).ownBlock ∧ some k_ ≠ (v283 : Value).ownBlock ∧ some k_ ≠ (.slice Ao63 t265.length co63 : Value).ownBlock ∧ some k_ ≠ (.slice Ao73 t244.length co73 : Value).ownBlock) (.slice Ao53 t263.length co53) t263) := ⟨h4_⟩
          have n5_ : Aside0 (Kd.R (Kd.int .i64) 3 w159 w.heap.size (fun k_ => some k_ ≠ (v273 : Value).ownBlock ∧ some k_ ≠ (v278 : Value).ownBlock ∧ some k_ ≠ (v283 : Value).ownBlock ∧ some k_ ≠ (.slice Ao53 t263.length co53 : Value).ownBlock ∧ some k_ ≠ (.slice Ao73 t244.length co73 : Value).ownBlock) (.slice Ao63 t265.length co63) t265) := ⟨h5_⟩
          have n6_ : Aside0 (Kd.R (Kd.int .i64) 3 w159 w.heap.size (fun k_ => some k_ ≠ (v273 : Value).ownBlock ∧ some k_ ≠ (v278 : Value).ownBlock ∧ some k_ ≠ (v283 : Value).ownBlock ∧ some k_ ≠ (.slice Ao53 t263.length co53 : Value).ownBlock ∧ some k_ ≠ (.slice Ao63 t265.length co63 : Value).ownBlock) (.slice Ao73 t244.length co73) t268) := ⟨h6_⟩
          have n7_ : Aside0 (w159.heap[gb209]? = some (.cells #[.int .i64 a0_0, .bool a0_1, .slice A0_2 l0_2.length c0_2] 32 (0, 0))) := ⟨h7_⟩
          have n8_ : Aside0 (w159.heap[gb210]? = some (.cells #[.int .i64 a1_0, .bool a1_1, .slice A1_2 l1_2.length c1_2] 32 (0, 0))) := ⟨h8_⟩
          have n9_ : Aside0 (w159.heap[gb229]? = some (.cells #[.int .i64 t223, .bool t224, .slice Ao43 t225.length co43] 34 (0, 0))) := ⟨h9_⟩
          have n10_ : Aside0 (w159.heap[gb235]? = some (.cells #[.int .i64 t230, .bool t231, .slice Ao53 t263.length co53] 34 (0, 0))) := ⟨h10_⟩
          have n11_ : Aside0 (w159.heap[gb241]? = some (.cells #[.int .i64 t236, .bool t237, .slice Ao63 t265.length co63] 34 (0, 0))) := ⟨h11_⟩
          have n12_ : Aside0 (w159.heap[gb248]? = some (.cells #[.int .i64 t242, .bool t243, .slice Ao73 t244.length co73] 34 (0, 0))) := ⟨h12_⟩
          have n13_ : Aside0 (w159.heap[gb286]? = some (.cells #[.int .i64 0, .bool false, .slice none 0 0] 34 (0, 0))) := ⟨h13_⟩
          have n14_ : Aside0 (w.heap.size ≤ gb286) := ⟨h14_⟩
          have n15_ : Aside0 (w.heap.size ≤ gb286) := ⟨h15_⟩
          have n16_ : Aside0 (gb209 ≠ gb286) := ⟨h16_⟩
          have n17_ : Aside0 (gb286 ≠ gb209) := ⟨h17_⟩
          have n18_ : Aside0 (gb210 ≠ gb286) := ⟨h18_⟩
          have n19_ : Aside0 (gb286 ≠ gb210) := ⟨h19_⟩
          have n20_ : Aside0 (gb229 ≠ gb286) := ⟨h20_⟩
          have n21_ : Aside0 (gb286 ≠ gb229) := ⟨h21_⟩
          have n22_ : Aside0 (gb235 ≠ gb286) := ⟨h22_⟩
          have n23_ : Aside0 (gb286 ≠ gb235) := ⟨h23_⟩
          have n24_ : Aside0 (gb241 ≠ gb286) := ⟨h24_⟩
          have n25_ : Aside0 (gb286 ≠ gb241) := ⟨h25_⟩
          have n26_ : Aside0 (gb248 ≠ gb286) := ⟨h26_⟩
          have n27_ : Aside0 (gb286 ≠ gb248) := ⟨h27_⟩
          have n28_ : Aside0 (Below w.heap.size w w159) := ⟨h28_⟩
          clear HO_230002
          clear HO_236002
          clear HO_242002
          clear HO_249002
          clear BK209
          clear BK210
          clear BK229
          clear BK235
          clear BK241
          clear BK248
          clear HB
          clear h0_ h1_ h2_ h3_ h4_ h5_ h6_ h7_ h8_ h9_ h10_ h11_ h12_ h13_ h14_ h15_ h16_ h17_ h18_ h19_ h20_ h21_ h22_ h23_ h24_ h25_ h26_ h27_ h28_
          have HO274 := n0_
          have HO279 := n1_
          have HO284 := n2_
          have HO_230002 := n3_
          have HO_236002 := n4_
          have HO_242002 := n5_
          have HO_249002 := n6_
          have BK209 := n7_
          have BK210 := n8_
          have BK229 := n9_
          have BK235 := n10_
          have BK241 := n11_
          have BK248 := n12_
          have BK286 := n13_
          have GW286 := n14_
          have GE286 := n15_
          have NB209_286 := n16_
          have NB286_209 := n17_
          have NB210_286 := n18_
          have NB286_210 := n19_
          have NB229_286 := n20_
          have NB286_229 := n21_
          have NB235_286 := n22_
          have NB286_235 := n23_
          have NB241_286 := n24_
          have NB286_241 := n25_
          have NB248_286 := n26_
          have NB286_248 := n27_
          have HB := n28_
          clear n0_ n1_ n2_ n3_ n4_ n5_ n6_ n7_ n8_ n9_ n10_ n11_ n12_ n13_ n14_ n15_ n16_ n17_ n18_ n19_ n20_ n21_ n22_ n23_ n24_ n25_ n26_ n27_ n28_
          have hHeld : w159.cell? ⟨gb209, 0, none⟩ = some (.int .i64 a0_0) ∧ w159.cell? ⟨gb209, 1, none⟩ = some (.bool a0_1) ∧ w159.cell? ⟨gb209, 2, none⟩ = some (.slice A0_2 l0_2.length c0_2) ∧ w159.cell? ⟨gb210, 0, none⟩ = some (.int .i64 a1_0) ∧ w159.cell? ⟨gb210, 1, none⟩ = some (.bool a1_1) ∧ w159.cell? ⟨gb210, 2, none⟩ = some (.slice A1_2 l1_2.length c1_2) := hS_
          obtain ⟨Ao162, co162, eo162⟩ := Kd.R_slice HO284.out
          (first | subst eo162 | (injection eo162 with f1_ f2_ f3_; have f4_ := f1_.symm; have f5_ := f3_.symm; clear f1_ f2_ f3_; subst f4_; subst f5_))
          refine norm_ (a' := ?_) ?_ ?_
          rotate_left
          · simp only [putAll, Act.put, List.setIfInBounds_toArray, List.set_cons_zero, List.set_cons_succ]
            rfl
          refine one_ (i := 9) (N := none) #[true, true, true, true, true, true, true, true, true, true, false] rfl rfl (one_of HT_.out (by kernel_rfl)) (by decide) (fun K hK => ?_)
          have hs160 : w159.cell? ⟨gb286, 0, none⟩ = some (.int .i64 0) := (blk_cell BK286.out 0).trans rfl
          have hfs160 := blk_frozen BK286.out 0
          have hns160_0 := NB209_286.out
          have hns160_1 := NB210_286.out
          have hns160_2 := NB229_286.out
          have hns160_3 := NB235_286.out
          have hns160_4 := NB241_286.out
          have hns160_5 := NB248_286.out
          have hms160_0 := NB286_209.out
          have hms160_1 := NB286_210.out
          have hms160_2 := NB286_229.out
          have hms160_3 := NB286_235.out
          have hms160_4 := NB286_241.out
          have hms160_5 := NB286_248.out
          have hs161 : w159.cell? ⟨gb286, 1, none⟩ = some (.bool false) := (blk_cell BK286.out 1).trans rfl
          have hfs161 := blk_frozen BK286.out 1
          have hns161_0 := NB209_286.out
          have hns161_1 := NB210_286.out
          have hns161_2 := NB229_286.out
          have hns161_3 := NB235_286.out
          have hns161_4 := NB241_286.out
          have hns161_5 := NB248_286.out
          have hms161_0 := NB286_209.out
          have hms161_1 := NB286_210.out
          have hms161_2 := NB286_229.out
          have hms161_3 := NB286_235.out
          have hms161_4 := NB286_241.out
          have hms161_5 := NB286_248.out
          have hs163 : w159.cell? ⟨gb286, 2, none⟩ = some (.slice none 0 0) := (blk_cell BK286.out 2).trans rfl
          have hfs163 := blk_frozen BK286.out 2
          have hns163_0 := NB209_286.out
          have hns163_1 := NB210_286.out
          have hns163_2 := NB229_286.out
          have hns163_3 := NB235_286.out
          have hns163_4 := NB241_286.out
          have hns163_5 := NB248_286.out
          have hms163_0 := NB286_209.out
          have hms163_1 := NB286_210.out
          have hms163_2 := NB286_229.out
          have hms163_3 := NB286_235.out
          have hms163_4 := NB286_241.out
          have hms163_5 := NB286_248.out
          refine skip_ (w1 := ?_) (by rfl) rfl ?_ ?_
          rotate_left
          · go_simp
            rfl
          refine hK.out _ _ ⟨((cell_far (p := ⟨gb286, _, none⟩) NB209_286.out _).trans (((cell_far (p := ⟨gb286, _, none⟩) NB209_286.out _).trans (((cell_far (p := ⟨gb286, _, none⟩) NB209_286.out _).trans (hHeld.1)))))), ((cell_far (p := ⟨gb286, _, none⟩) NB209_286.out _).trans (((cell_far (p := ⟨gb286, _, none⟩) NB209_286.out _).trans (((cell_far (p := ⟨gb286, _, none⟩) NB209_286.out _).trans (hHeld.2.1)))))), ((cell_far (p := ⟨gb286, _, none⟩) NB209_286.out _).trans (((cell_far (p := ⟨gb286, _, none⟩) NB209_286.out _).trans (((cell_far (p := ⟨gb286, _, none⟩) NB209_286.out _).trans (hHeld.2.2.1)))))), ((cell_far (p := ⟨gb286, _, none⟩) NB210_286.out _).trans (((cell_far (p := ⟨gb286, _, none⟩) NB210_286.out _).trans (((cell_far (p := ⟨gb286, _, none⟩) NB210_286.out _).trans (hHeld.2.2.2.1)))))), ((cell_far (p := ⟨gb286, _, none⟩) NB210_286.out _).trans (((cell_far (p := ⟨gb286, _, none⟩) NB210_286.out _).trans (((cell_far (p := ⟨gb286, _, none⟩) NB210_286.out _).trans (hHeld.2.2.2.2.1)))))), ((cell_far (p := ⟨gb286, _, none⟩) NB210_286.out _).trans (((cell_far (p := ⟨gb286, _, none⟩) NB210_286.out _).trans (((cell_far (p := ⟨gb286, _, none⟩) NB210_286.out _).trans (hHeld.2.2.2.2.2))))))⟩ (fun hHeld => ?_)
          clear hK K
          refine pure_ (i := 10) (N := some 16) (v := ?_) (a' := ?_) #[true, true, true, true, true, true, true, true, true, true, true] rfl rfl (any_of HT_.out (by kernel_rfl)) (fun _ _ _ h => h) (Or.inl ⟨by rfl, ?_⟩) ?_ ?_
          rotate_left
          · intro w'
            go_simp
            with_reducible rfl
          rotate_left
          · simp only [Act.put, List.setIfInBounds_toArray, List.set_cons_zero, List.set_cons_succ, i64_w, i32_w]
            rfl
          refine done_ (done_of HT_.out (by kernel_rfl)) ?_
          go_upto_region 32 with (fail)
          go_cut [110] (fun v110 wc => ∃ (kq : Nat) (x110_141 : Bool), v110 = .bool x110_141 ∧ Aside0 (laws_FnExactJoinSeats.j2 kq t267 x110_141 t242 t243 t268 = some true) ∧ Aside0 (kq ≤ kj96) ∧ Aside0 (Kd.V (Kd.int .i64) 3 wc w.heap.size (fun k_ => some k_ ≠ ((.slice Ao53 t263.length co53) : Value).ownBlock ∧ some k_ ≠ ((.slice Ao63 t265.length co63) : Value).ownBlock ∧ some k_ ≠ ((.slice Ao73 t244.length co73) : Value).ownBlock ∧ some k_ ≠ ((.slice Ao162 t282.length co162) : Value).ownBlock ∧ k_ ≠ gb209 ∧ k_ ≠ gb210 ∧ k_ ≠ gb229 ∧ k_ ≠ gb235 ∧ k_ ≠ gb241 ∧ k_ ≠ gb248 ∧ k_ ≠ gb286) (.slice Ao43 t225.length co43) t225) ∧ Aside0 (Kd.R (Kd.int .i64) 3 wc w.heap.size (fun k_ => some k_ ≠ ((.slice Ao63 t265.length co63) : Value).ownBlock ∧ some k_ ≠ ((.slice Ao73 t244.length co73) : Value).ownBlock ∧ some k_ ≠ ((.slice Ao162 t282.length co162) : Value).ownBlock) (.slice Ao53 t263.length co53) t263) ∧ Aside0 (Kd.R (Kd.int .i64) 3 wc w.heap.size (fun k_ => some k_ ≠ ((.slice Ao53 t263.length co53) : Value).ownBlock ∧ some k_ ≠ ((.slice Ao73 t244.length co73) : Value).ownBlock ∧ some k_ ≠ ((.slice Ao162 t282.length co162) : Value).ownBlock) (.slice Ao63 t265.length co63) t265) ∧ Aside0 (Kd.R (Kd.int .i64) 3 wc w.heap.size (fun k_ => some k_ ≠ ((.slice Ao53 t263.length co53) : Value).ownBlock ∧ some k_ ≠ ((.slice Ao63 t265.length co63) : Value).ownBlock ∧ some k_ ≠ ((.slice Ao162 t282.length co162) : Value).ownBlock) (.slice Ao73 t244.length co73) t268) ∧ Aside0 (Kd.R (Kd.int .i64) 3 wc w.heap.size (fun k_ => some k_ ≠ ((.slice Ao53 t263.length co53) : Value).ownBlock ∧ some k_ ≠ ((.slice Ao63 t265.length co63) : Value).ownBlock ∧ some k_ ≠ ((.slice Ao73 t244.length co73) : Value).ownBlock) (.slice Ao162 t282.length co162) t282) ∧ Aside0 (wc.heap[gb209]? = some (.cells #[.int .i64 a0_0, .bool a0_1, (.slice A0_2 l0_2.length c0_2)] 32 (0, 0))) ∧ Aside0 (wc.heap[gb210]? = some (.cells #[.int .i64 a1_0, .bool a1_1, (.slice A1_2 l1_2.length c1_2)] 32 (0, 0))) ∧ Aside0 (wc.heap[gb229]? = some (.cells #[.int .i64 t223, .bool t224, (.slice Ao43 t225.length co43)] 34 (0, 0))) ∧ Aside0 (wc.heap[gb235]? = some (.cells #[.int .i64 t230, .bool t231, (.slice Ao53 t263.length co53)] 34 (0, 0))) ∧ Aside0 (wc.heap[gb241]? = some (.cells #[.int .i64 t236, .bool t237, (.slice Ao63 t265.length co63)] 34 (0, 0))) ∧ Aside0 (wc.heap[gb248]? = some (.cells #[.int .i64 t242, .bool t243, (.slice Ao73 t244.length co73)] 34 (0, 0))) ∧ Aside0 (wc.heap[gb286]? = some (.cells #[.int .i64 t280, .bool t281, (.slice Ao162 t282.length co162)] 34 (0, 0))) ∧ Aside0 (Below w.heap.size w wc))
          case first =>
            have H := HC142.out
            clear HC142
            replace H := Option.bind_eq_some_iff.mp H
            obtain ⟨t287, A1640, H⟩ := H
            replace H : (if t287 = true then (laws_FnExactJoinSeats.j2 kj96 t267 (t285 != t228) t242 t243 t268) else (laws_FnExactJoinSeats.j2 kj96 t267 true t242 t243 t268)) = some true := H
            have A164 := Aside0.mk A1640
            clear A1640
            by_cases c165 : t287 = true
            · subst c165
              have H1 : (laws_FnExactJoinSeats.j2 kj96 t267 (t285 != t228) t242 t243 t268) = some true := by rw [if_pos rfl] at H; exact H
              clear H
              have H := H1
              clear H1
              have H' := Aside0.mk H
              clear H
              have hnb166 := NB286_209.out
              have hnc166 := NB209_286.out
              have hnb167 := NB286_210.out
              have hnc167 := NB210_286.out
              have hnb168 := NB286_229.out
              have hnc168 := NB229_286.out
              have hnb169 := NB286_235.out
              have hnc169 := NB235_286.out
              have hnb170 := NB286_241.out
              have hnc170 := NB241_286.out
              have hnb171 := NB286_248.out
              have hnc171 := NB248_286.out
              have hcz172_0 : w159.cell? ⟨gb286, 0, none⟩ = some (.int .i64 0) := (blk_cell BK286.out 0).trans rfl
              have hcz172_1 : w159.cell? ⟨gb286, 1, none⟩ = some (.bool false) := (blk_cell BK286.out 1).trans rfl
              have hcz172_2 : w159.cell? ⟨gb286, 2, none⟩ = some (.slice none 0 0) := (blk_cell BK286.out 2).trans rfl
              have hfz172_0 := blk_frozen BK286.out 0
              have hfz172_1 := blk_frozen BK286.out 1
              have hfz172_2 := blk_frozen BK286.out 2
              have hnb173 := NB229_209.out
              have hnc173 := NB209_229.out
              have hnb174 := NB229_210.out
              have hnc174 := NB210_229.out
              have hnb175 := NB229_235.out
              have hnc175 := NB235_229.out
              have hnb176 := NB229_241.out
              have hnc176 := NB241_229.out
              have hnb177 := NB229_248.out
              have hnc177 := NB248_229.out
              have hcz178_0 : w159.cell? ⟨gb229, 0, none⟩ = some (.int .i64 t223) := (blk_cell BK229.out 0).trans rfl
              have hcz178_1 : w159.cell? ⟨gb229, 1, none⟩ = some (.bool t224) := (blk_cell BK229.out 1).trans rfl
              have hcz178_2 : w159.cell? ⟨gb229, 2, none⟩ = some (.slice Ao43 t225.length co43) := (blk_cell BK229.out 2).trans rfl
              have hfz178_0 := blk_frozen BK229.out 0
              have hfz178_1 := blk_frozen BK229.out 1
              have hfz178_2 := blk_frozen BK229.out 2
              go_wp2_with (first | ((with_reducible refine gate_callee (f := 20) rfl ?_); refine goesL_ (some 104) rfl rfl Tryd.func20 (by kernel_rfl) rfl #[.agg #[.int .i64 t280, .bool t281, .slice Ao162 t282.length co162], .agg #[.int .i64 t223, .bool t224, .slice Ao43 t225.length co43]] rfl (by (try simp only [List.map_toArray, List.map_cons, List.map_nil]); first | done | rfl | (simp only [List.length_drop, List.length_take]; rfl)) ?_; (with_reducible refine (laws_eqRow.calls kj96 t280 t281 _ _ t282 t223 t224 _ _ t225 true _ ?side1 ?side2 ?side3 ?side4 A164.out).mono ?_); (case side1 => refine (Kd.R_reads' (e := 3) (base := w.heap.size) (ok := fun k_ => (some k_ ≠ (v273 : Value).ownBlock ∧ (some k_ ≠ (v278 : Value).ownBlock ∧ (some k_ ≠ (.slice Ao53 t263.length co53 : Value).ownBlock ∧ (some k_ ≠ (.slice Ao63 t265.length co63 : Value).ownBlock ∧ some k_ ≠ (.slice Ao73 t244.length co73 : Value).ownBlock))))) (n := t282.length) (c := co162) ?_).2.2; exact (by (with_reducible repeat (first | apply Kd.R_alloc | apply Kd.R_drewN | apply Kd.R_drew)); exact (Kd.R_mono (Kd.R_far (p := ⟨gb286, 2, none⟩) (Kd.R_far (p := ⟨gb286, 1, none⟩) (Kd.R_far (p := ⟨gb286, 0, none⟩) (Kd.R_types HO284.out BK286.out (by decide)) (fun _ hk => hk.2) (.int .i64 t280)) (fun _ hk => hk.2) (.bool t281)) (fun _ hk => hk.2) (.slice Ao162 t282.length co162)) (fun _ h_ => h_.1)))); (case side2 => exact (Kd.R_reads' HO284.out).2.1); (case side3 => refine (Kd.V_reads' (e := 3) (base := w.heap.size) (ok := fun k_ => (some k_ ≠ (v273 : Value).ownBlock ∧ (some k_ ≠ (v278 : Value).ownBlock ∧ (some k_ ≠ (.slice Ao162 t282.length co162 : Value).ownBlock ∧ (some k_ ≠ (.slice Ao53 t263.length co53 : Value).ownBlock ∧ (some k_ ≠ (.slice Ao63 t265.length co63 : Value).ownBlock ∧ (some k_ ≠ (.slice Ao73 t244.length co73 : Value).ownBlock ∧ (k_ ≠ gb209 ∧ (k_ ≠ gb210 ∧ (k_ ≠ gb229 ∧ (k_ ≠ gb235 ∧ (k_ ≠ gb241 ∧ (k_ ≠ gb248 ∧ k_ ≠ gb286))))))))))))) (n := t225.length) (c := co43) ?_).2.2; exact (by (with_reducible repeat (first | apply Kd.V_alloc | apply Kd.V_drewN | apply Kd.V_drew)); exact (Kd.V_mono (Kd.V_far (p := ⟨gb286, 2, none⟩) (Kd.V_far (p := ⟨gb286, 1, none⟩) (Kd.V_far (p := ⟨gb286, 0, none⟩) (Kd.V_mono HO_230002.out (fun k_ hk => (⟨hk, hk.2.2.2.2.2.2.2.2.2.2.2.2⟩ : _ ∧ k_ ≠ gb286))) (fun _ hk => hk.2) (.int .i64 t280)) (fun _ hk => hk.2) (.bool t281)) (fun _ hk => hk.2) (.slice Ao162 t282.length co162)) (fun _ h_ => h_.1)))); (case side4 => exact (Kd.V_reads' HO_230002.out).2.1); rintro e w179 ⟨rfl, hb⟩; refine ⟨_, rfl, ?_⟩; have n0_ := Aside0.mk (Kd.V_below (by (with_reducible repeat (first | apply Kd.V_alloc | apply Kd.V_drewN | apply Kd.V_drew)); exact (Kd.V_mono (Kd.V_far (p := ⟨gb286, 2, none⟩) (Kd.V_far (p := ⟨gb286, 1, none⟩) (Kd.V_far (p := ⟨gb286, 0, none⟩) (Kd.V_mono HO_230002.out (fun k_ hk => (⟨hk, hk.2.2.2.2.2.2.2.2.2.2.2.2⟩ : _ ∧ k_ ≠ gb286))) (fun _ hk => hk.2) (.int .i64 t280)) (fun _ hk => hk.2) (.bool t281)) (fun _ hk => hk.2) (.slice Ao162 t282.length co162)) (fun _ h_ => h_.1))) hb); have n1_ := Aside0.mk (Kd.R_below (by (with_reducible repeat (first | apply Kd.R_alloc | apply Kd.R_drewN | apply Kd.R_drew)); exact (Kd.R_mono (Kd.R_far (p := ⟨gb286, 2, none⟩) (Kd.R_far (p := ⟨gb286, 1, none⟩) (Kd.R_far (p := ⟨gb286, 0, none⟩) (Kd.R_types HO_236002.out BK286.out (by decide)) (fun _ hk => hk.2) (.int .i64 t280)) (fun _ hk => hk.2) (.bool t281)) (fun _ hk => hk.2) (.slice Ao162 t282.length co162)) (fun _ h_ => h_.1))) hb); have n2_ := Aside0.mk (Kd.R_below (by (with_reducible repeat (first | apply Kd.R_alloc | apply Kd.R_drewN | apply Kd.R_drew)); exact (Kd.R_mono (Kd.R_far (p := ⟨gb286, 2, none⟩) (Kd.R_far (p := ⟨gb286, 1, none⟩) (Kd.R_far (p := ⟨gb286, 0, none⟩) (Kd.R_types HO_242002.out BK286.out (by decide)) (fun _ hk => hk.2) (.int .i64 t280)) (fun _ hk => hk.2) (.bool t281)) (fun _ hk => hk.2) (.slice Ao162 t282.length co162)) (fun _ h_ => h_.1))) hb); have n3_ := Aside0.mk (Kd.R_below (by (with_reducible repeat (first | apply Kd.R_alloc | apply Kd.R_drewN | apply Kd.R_drew)); exact (Kd.R_mono (Kd.R_far (p := ⟨gb286, 2, none⟩) (Kd.R_far (p := ⟨gb286, 1, none⟩) (Kd.R_far (p := ⟨gb286, 0, none⟩) (Kd.R_types HO_249002.out BK286.out (by decide)) (fun _ hk => hk.2) (.int .i64 t280)) (fun _ hk => hk.2) (.bool t281)) (fun _ hk => hk.2) (.slice Ao162 t282.length co162)) (fun _ h_ => h_.1))) hb); have n4_ := Aside0.mk (Kd.R_below (by (with_reducible repeat (first | apply Kd.R_alloc | apply Kd.R_drewN | apply Kd.R_drew)); exact (Kd.R_mono (Kd.R_far (p := ⟨gb286, 2, none⟩) (Kd.R_far (p := ⟨gb286, 1, none⟩) (Kd.R_far (p := ⟨gb286, 0, none⟩) (Kd.R_types HO274.out BK286.out (by decide)) (fun _ hk => hk.2) (.int .i64 t280)) (fun _ hk => hk.2) (.bool t281)) (fun _ hk => hk.2) (.slice Ao162 t282.length co162)) (fun _ h_ => h_.1))) hb); have n5_ := Aside0.mk (Kd.R_below (by (with_reducible repeat (first | apply Kd.R_alloc | apply Kd.R_drewN | apply Kd.R_drew)); exact (Kd.R_mono (Kd.R_far (p := ⟨gb286, 2, none⟩) (Kd.R_far (p := ⟨gb286, 1, none⟩) (Kd.R_far (p := ⟨gb286, 0, none⟩) (Kd.R_types HO279.out BK286.out (by decide)) (fun _ hk => hk.2) (.int .i64 t280)) (fun _ hk => hk.2) (.bool t281)) (fun _ hk => hk.2) (.slice Ao162 t282.length co162)) (fun _ h_ => h_.1))) hb); have n6_ := Aside0.mk (Kd.R_below (by (with_reducible repeat (first | apply Kd.R_alloc | apply Kd.R_drewN | apply Kd.R_drew)); exact (Kd.R_mono (Kd.R_far (p := ⟨gb286, 2, none⟩) (Kd.R_far (p := ⟨gb286, 1, none⟩) (Kd.R_far (p := ⟨gb286, 0, none⟩) (Kd.R_types HO284.out BK286.out (by decide)) (fun _ hk => hk.2) (.int .i64 t280)) (fun _ hk => hk.2) (.bool t281)) (fun _ hk => hk.2) (.slice Ao162 t282.length co162)) (fun _ h_ => h_.1))) hb); have n7_ := Aside0.mk (blk_below (g := gb209) (o := .cells #[.int .i64 a0_0, .bool a0_1, .slice A0_2 l0_2.length c0_2] 32 (0, 0)) (by (with_reducible repeat (first | refine blk_drewN ?_ _ | refine blk_drew ?_ | refine blk_alloc ?_ _)); refine blk_far ?_ NB209_286.out _; (with_reducible repeat (first | refine blk_drewN ?_ _ | refine blk_drew ?_ | refine blk_alloc ?_ _)); refine blk_far ?_ NB209_286.out _; (with_reducible repeat (first | refine blk_drewN ?_ _ | refine blk_drew ?_ | refine blk_alloc ?_ _)); refine blk_far ?_ NB209_286.out _; (with_reducible repeat (first | refine blk_drewN ?_ _ | refine blk_drew ?_ | refine blk_alloc ?_ _)); exact BK209.out) hb); have n8_ := Aside0.mk (blk_below (g := gb210) (o := .cells #[.int .i64 a1_0, .bool a1_1, .slice A1_2 l1_2.length c1_2] 32 (0, 0)) (by (with_reducible repeat (first | refine blk_drewN ?_ _ | refine blk_drew ?_ | refine blk_alloc ?_ _)); refine blk_far ?_ NB210_286.out _; (with_reducible repeat (first | refine blk_drewN ?_ _ | refine blk_drew ?_ | refine blk_alloc ?_ _)); refine blk_far ?_ NB210_286.out _; (with_reducible repeat (first | refine blk_drewN ?_ _ | refine blk_drew ?_ | refine blk_alloc ?_ _)); refine blk_far ?_ NB210_286.out _; (with_reducible repeat (first | refine blk_drewN ?_ _ | refine blk_drew ?_ | refine blk_alloc ?_ _)); exact BK210.out) hb); have n9_ := Aside0.mk (blk_below (g := gb229) (o := .cells #[.int .i64 t223, .bool t224, .slice Ao43 t225.length co43] 34 (0, 0)) (by (with_reducible repeat (first | refine blk_drewN ?_ _ | refine blk_drew ?_ | refine blk_alloc ?_ _)); refine blk_far ?_ NB229_286.out _; (with_reducible repeat (first | refine blk_drewN ?_ _ | refine blk_drew ?_ | refine blk_alloc ?_ _)); refine blk_far ?_ NB229_286.out _; (with_reducible repeat (first | refine blk_drewN ?_ _ | refine blk_drew ?_ | refine blk_alloc ?_ _)); refine blk_far ?_ NB229_286.out _; (with_reducible repeat (first | refine blk_drewN ?_ _ | refine blk_drew ?_ | refine blk_alloc ?_ _)); exact BK229.out) hb); have n10_ := Aside0.mk (blk_below (g := gb235) (o := .cells #[.int .i64 t230, .bool t231, .slice Ao53 t263.length co53] 34 (0, 0)) (by (with_reducible repeat (first | refine blk_drewN ?_ _ | refine blk_drew ?_ | refine blk_alloc ?_ _)); refine blk_far ?_ NB235_286.out _; (with_reducible repeat (first | refine blk_drewN ?_ _ | refine blk_drew ?_ | refine blk_alloc ?_ _)); refine blk_far ?_ NB235_286.out _; (with_reducible repeat (first | refine blk_drewN ?_ _ | refine blk_drew ?_ | refine blk_alloc ?_ _)); refine blk_far ?_ NB235_286.out _; (with_reducible repeat (first | refine blk_drewN ?_ _ | refine blk_drew ?_ | refine blk_alloc ?_ _)); exact BK235.out) hb); have n11_ := Aside0.mk (blk_below (g := gb241) (o := .cells #[.int .i64 t236, .bool t237, .slice Ao63 t265.length co63] 34 (0, 0)) (by (with_reducible repeat (first | refine blk_drewN ?_ _ | refine blk_drew ?_ | refine blk_alloc ?_ _)); refine blk_far ?_ NB241_286.out _; (with_reducible repeat (first | refine blk_drewN ?_ _ | refine blk_drew ?_ | refine blk_alloc ?_ _)); refine blk_far ?_ NB241_286.out _; (with_reducible repeat (first | refine blk_drewN ?_ _ | refine blk_drew ?_ | refine blk_alloc ?_ _)); refine blk_far ?_ NB241_286.out _; (with_reducible repeat (first | refine blk_drewN ?_ _ | refine blk_drew ?_ | refine blk_alloc ?_ _)); exact BK241.out) hb); have n12_ := Aside0.mk (blk_below (g := gb248) (o := .cells #[.int .i64 t242, .bool t243, .slice Ao73 t244.length co73] 34 (0, 0)) (by (with_reducible repeat (first | refine blk_drewN ?_ _ | refine blk_drew ?_ | refine blk_alloc ?_ _)); refine blk_far ?_ NB248_286.out _; (with_reducible repeat (first | refine blk_drewN ?_ _ | refine blk_drew ?_ | refine blk_alloc ?_ _)); refine blk_far ?_ NB248_286.out _; (with_reducible repeat (first | refine blk_drewN ?_ _ | refine blk_drew ?_ | refine blk_alloc ?_ _)); refine blk_far ?_ NB248_286.out _; (with_reducible repeat (first | refine blk_drewN ?_ _ | refine blk_drew ?_ | refine blk_alloc ?_ _)); exact BK248.out) hb); have n13_ := Aside0.mk (blk_below (g := gb286) (o := .cells #[.int .i64 t280, .bool t281, .slice Ao162 t282.length co162] 34 (0, 0)) (by (with_reducible repeat (first | refine blk_drewN ?_ _ | refine blk_drew ?_ | refine blk_alloc ?_ _)); refine blk_put (cs := #[.int .i64 t280, .bool t281, .slice none 0 0]) ?_ 2 _ rfl; (with_reducible repeat (first | refine blk_drewN ?_ _ | refine blk_drew ?_ | refine blk_alloc ?_ _)); refine blk_put (cs := #[.int .i64 t280, .bool false, .slice none 0 0]) ?_ 1 _ rfl; (with_reducible repeat (first | refine blk_drewN ?_ _ | refine blk_drew ?_ | refine blk_alloc ?_ _)); refine blk_put (cs := #[.int .i64 0, .bool false, .slice none 0 0]) ?_ 0 _ rfl; (with_reducible repeat (first | refine blk_drewN ?_ _ | refine blk_drew ?_ | refine blk_alloc ?_ _)); exact BK286.out) hb); have n14_ := Aside0.mk (below_step (by repeat (first | (with_reducible first | exact HB.out | apply below_alloc | apply pw_below_drewN | apply below_drew1 | refine below_set ?_ GE209.out | refine below_set ?_ GE210.out | refine below_set ?_ GE229.out | refine below_set ?_ GE235.out | refine below_set ?_ GE241.out | refine below_set ?_ GE248.out | refine below_set ?_ GE286.out) | exact HB.out)) hb); clear HO_230002; clear HO_236002; clear HO_242002; clear HO_249002; clear HO274; clear HO279; clear HO284; clear BK209; clear BK210; clear BK229; clear BK235; clear BK241; clear BK248; clear BK286; clear HB; have HO_230002 := n0_; have HO_236002 := n1_; have HO_242002 := n2_; have HO_249002 := n3_; have HO274 := n4_; have HO279 := n5_; have HO284 := n6_; have BK209 := n7_; have BK210 := n8_; have BK229 := n9_; have BK235 := n10_; have BK241 := n11_; have BK248 := n12_; have BK286 := n13_; have HB := n14_; clear n0_ n1_ n2_ n3_ n4_ n5_ n6_ n7_ n8_ n9_ n10_ n11_ n12_ n13_ n14_; (try clear hb); (try clear hb2); (try clear hk); (try clear hi)))
              go_meet
              case rel => exact ⟨_, ((t285 != t228)), (by first | rfl | (simp; done) | (simp [*]; done) | (simp [wrap64]; done) | (simp [*, wrap64]; done)), H', ⟨by have := HJ24.out; have := HJ96.out; first | omega | exact Nat.le_refl _⟩, ⟨by (try simp only [hl236002_96]); (try simp only [hl242002_96]); (with_reducible repeat (first | apply Kd.V_alloc | apply Kd.V_drewN | apply Kd.V_drew)); exact Kd.V_mono HO_230002.out (fun _ hk => ⟨hk.2.2.2.1, ⟨hk.2.2.2.2.1, ⟨hk.2.2.2.2.2.1, ⟨hk.2.2.1, ⟨hk.2.2.2.2.2.2.1, ⟨hk.2.2.2.2.2.2.2.1, ⟨hk.2.2.2.2.2.2.2.2.1, ⟨hk.2.2.2.2.2.2.2.2.2.1, ⟨hk.2.2.2.2.2.2.2.2.2.2.1, ⟨hk.2.2.2.2.2.2.2.2.2.2.2.1, hk.2.2.2.2.2.2.2.2.2.2.2.2⟩⟩⟩⟩⟩⟩⟩⟩⟩⟩)⟩, ⟨by (try simp only [hl236002_96]); (try simp only [hl242002_96]); (with_reducible repeat (first | apply Kd.R_alloc | apply Kd.R_drewN | apply Kd.R_drew)); exact Kd.R_mono HO_236002.out (fun _ hk => ⟨hk.2.2.2.1, ⟨hk.2.2.2.2, hk.2.2.1⟩⟩)⟩, ⟨by (try simp only [hl236002_96]); (try simp only [hl242002_96]); (with_reducible repeat (first | apply Kd.R_alloc | apply Kd.R_drewN | apply Kd.R_drew)); exact Kd.R_mono HO_242002.out (fun _ hk => ⟨hk.2.2.2.1, ⟨hk.2.2.2.2, hk.2.2.1⟩⟩)⟩, ⟨by (try simp only [hl236002_96]); (try simp only [hl242002_96]); (with_reducible repeat (first | apply Kd.R_alloc | apply Kd.R_drewN | apply Kd.R_drew)); exact Kd.R_mono HO_249002.out (fun _ hk => ⟨hk.2.2.2.1, ⟨hk.2.2.2.2, hk.2.2.1⟩⟩)⟩, ⟨by (try simp only [hl236002_96]); (try simp only [hl242002_96]); (with_reducible repeat (first | apply Kd.R_alloc | apply Kd.R_drewN | apply Kd.R_drew)); exact Kd.R_mono HO284.out (fun _ hk => ⟨hk.2.2.1, ⟨hk.2.2.2.1, hk.2.2.2.2⟩⟩)⟩, ⟨by (try simp only [hl236002_96]); (try simp only [hl242002_96]); (with_reducible repeat (first | refine blk_drewN ?_ _ | refine blk_drew ?_ | refine blk_alloc ?_ _)); exact BK209.out⟩, ⟨by (try simp only [hl236002_96]); (try simp only [hl242002_96]); (with_reducible repeat (first | refine blk_drewN ?_ _ | refine blk_drew ?_ | refine blk_alloc ?_ _)); exact BK210.out⟩, ⟨by (try simp only [hl236002_96]); (try simp only [hl242002_96]); (with_reducible repeat (first | refine blk_drewN ?_ _ | refine blk_drew ?_ | refine blk_alloc ?_ _)); exact BK229.out⟩, ⟨by (try simp only [hl236002_96]); (try simp only [hl242002_96]); (with_reducible repeat (first | refine blk_drewN ?_ _ | refine blk_drew ?_ | refine blk_alloc ?_ _)); exact BK235.out⟩, ⟨by (try simp only [hl236002_96]); (try simp only [hl242002_96]); (with_reducible repeat (first | refine blk_drewN ?_ _ | refine blk_drew ?_ | refine blk_alloc ?_ _)); exact BK241.out⟩, ⟨by (try simp only [hl236002_96]); (try simp only [hl242002_96]); (with_reducible repeat (first | refine blk_drewN ?_ _ | refine blk_drew ?_ | refine blk_alloc ?_ _)); exact BK248.out⟩, ⟨by (try simp only [hl236002_96]); (try simp only [hl242002_96]); (with_reducible repeat (first | refine blk_drewN ?_ _ | refine blk_drew ?_ | refine blk_alloc ?_ _)); exact BK286.out⟩, ⟨by repeat (first | (with_reducible first | exact HB.out | apply below_alloc | apply pw_below_drewN | apply below_drew1 | refine below_set ?_ GE209.out | refine below_set ?_ GE210.out | refine below_set ?_ GE229.out | refine below_set ?_ GE235.out | refine below_set ?_ GE241.out | refine below_set ?_ GE248.out | refine below_set ?_ GE286.out) | exact HB.out)⟩⟩
            · replace c165 := Bool.eq_false_iff.mpr c165
              subst c165
              have H1 : (laws_FnExactJoinSeats.j2 kj96 t267 true t242 t243 t268) = some true := by rw [if_neg (show ¬ (false = true) by decide)] at H; exact H
              clear H
              have H := H1
              clear H1
              exact absurd H (laws_FnExactJoinSeats.j2_no _ _ _ _ _)
          case rest =>
            clear HC142
            try clear c1
            try clear c2
            try clear p2
            try clear p6
            try clear c16
            try clear c17
            try clear c18
            try clear c20
            try clear c24
            try clear p64
            try clear c165
            try clear c166
            try clear c167
            try clear c168
            try clear c169
            try clear c170
            try clear c171
            try clear c173
            try clear c174
            try clear c175
            try clear c176
            try clear c177
            try clear hcz172_0
            try clear hcz172_1
            try clear hcz172_2
            try clear hcz178_0
            try clear hcz178_1
            try clear hcz178_2
            try clear hfz172_0
            try clear hfz172_1
            try clear hfz172_2
            try clear hfz178_0
            try clear hfz178_1
            try clear hfz178_2
            obtain ⟨kq, x110_141, rfl, HA, HJ141, HO_230002, HO_236002, HO_242002, HO_249002, HO_287002, BK209, BK210, BK229, BK235, BK241, BK248, BK286, HB⟩ := hcut
            have hl249002_141 := (Kd.R_reads' HO_249002.out).1
            rw [hl249002_141] at HO_249002
            (try simp only [hl249002_141])
            (try simp only [hl249002_141] at BK209)
            (try simp only [hl249002_141] at BK210)
            (try simp only [hl249002_141] at BK229)
            (try simp only [hl249002_141] at BK235)
            (try simp only [hl249002_141] at BK241)
            (try simp only [hl249002_141] at BK248)
            (try simp only [hl249002_141] at BK286)
            (try simp only [hl249002_141] at HO_230002)
            (try simp only [hl249002_141] at HO_236002)
            (try simp only [hl249002_141] at HO_242002)
            (try simp only [hl249002_141] at HO_287002)
            cases kq with
            | zero => exact absurd HA.out (by simp [laws_FnExactJoinSeats.j2])
            | succ kj141 =>
              have H := HA.out
              clear HA
              simp only [laws_FnExactJoinSeats.j2] at H
              by_cases c180 : x110_141 = true
              · subst c180
                have H1 : (some false) = some true := by rw [if_pos rfl] at H; exact H
                clear H
                have H := H1
                clear H1
                exact absurd (Option.some.inj H) (by decide)
              · replace c180 := Bool.eq_false_iff.mpr c180
                subst c180
                have H1 : ((laws_heldRow.f kj141 t242 t243 t268 1).bind fun t288 => (if t288 < 0 then (some false) else (if t288 = t267 then (some true) else (some false)))) = some true := by rw [if_neg (show ¬ (false = true) by decide)] at H; exact H
                clear H
                have H := H1
                clear H1
                replace H := Option.bind_eq_some_iff.mp H
                obtain ⟨t288, A1810, H⟩ := H
                replace H : (if t288 < 0 then (some false) else (if t288 = t267 then (some true) else (some false))) = some true := H
                have A181 := Aside0.mk A1810
                clear A1810
                by_cases c182 : t288 < 0
                · rw [if_pos c182] at H
                  have c182b0 : decide (t288 < 0) = true := decide_eq_true c182
                  clear c182
                  exact absurd (Option.some.inj H) (by decide)
                · rw [if_neg c182] at H
                  have c182b0 : decide (t288 < 0) = false := decide_eq_false c182
                  clear c182
                  by_cases c183 : t288 = t267
                  · rw [if_pos c183] at H
                    have c183b0 : (t288 == t267) = true := beq_iff_eq.mpr c183
                    have c183b1 : (t288 != t267) = false := bne_eq_false_iff_eq.mpr c183
                    clear c183
                    clear H
                    have hnb184 := NB248_209.out
                    have hnc184 := NB209_248.out
                    have hnb185 := NB248_210.out
                    have hnc185 := NB210_248.out
                    have hnb186 := NB248_229.out
                    have hnc186 := NB229_248.out
                    have hnb187 := NB248_235.out
                    have hnc187 := NB235_248.out
                    have hnb188 := NB248_241.out
                    have hnc188 := NB241_248.out
                    have hnb189 := NB248_286.out
                    have hnc189 := NB286_248.out
                    have hcz190_0 : wc.cell? ⟨gb248, 0, none⟩ = some (.int .i64 t242) := (blk_cell BK248.out 0).trans rfl
                    have hcz190_1 : wc.cell? ⟨gb248, 1, none⟩ = some (.bool t243) := (blk_cell BK248.out 1).trans rfl
                    have hcz190_2 : wc.cell? ⟨gb248, 2, none⟩ = some (.slice Ao73 t268.length co73) := (blk_cell BK248.out 2).trans rfl
                    have hfz190_0 := blk_frozen BK248.out 0
                    have hfz190_1 := blk_frozen BK248.out 1
                    have hfz190_2 := blk_frozen BK248.out 2
                    go_wp2_with (first | ((with_reducible refine gate_callee (f := 22) rfl ?_); refine goesL_ (some 113) rfl rfl Tryd.func22 (by kernel_rfl) rfl #[.agg #[.int .i64 t242, .bool t243, .slice Ao73 t268.length co73], .int .i64 1] rfl (by (try simp only [List.map_toArray, List.map_cons, List.map_nil]); first | done | rfl | (simp only [List.length_drop, List.length_take]; rfl)) ?_; (with_reducible refine (laws_heldRow.calls kj141 t242 t243 _ _ t268 1 t288 _ ?side1 ?side2 A181.out).mono ?_); (case side1 => repeat (first | exact (Kd.R_reads' HO_249002.out).2.2 | (with_reducible refine Kd.C_alloc ?_ _) | (with_reducible refine Kd.C_drewN ?_ _) | (with_reducible refine Kd.C_drew ?_))); (case side2 => exact (Kd.R_reads' HO_249002.out).2.1); rintro e w191 ⟨rfl, hb⟩; refine ⟨_, rfl, ?_⟩; have n0_ := Aside0.mk (Kd.V_below (by (with_reducible repeat (first | apply Kd.V_alloc | apply Kd.V_drewN | apply Kd.V_drew)); exact HO_230002.out) hb); have n1_ := Aside0.mk (Kd.R_below (by (with_reducible repeat (first | apply Kd.R_alloc | apply Kd.R_drewN | apply Kd.R_drew)); exact HO_236002.out) hb); have n2_ := Aside0.mk (Kd.R_below (by (with_reducible repeat (first | apply Kd.R_alloc | apply Kd.R_drewN | apply Kd.R_drew)); exact HO_242002.out) hb); have n3_ := Aside0.mk (Kd.R_below (by (with_reducible repeat (first | apply Kd.R_alloc | apply Kd.R_drewN | apply Kd.R_drew)); exact HO_249002.out) hb); have n4_ := Aside0.mk (Kd.R_below (by (with_reducible repeat (first | apply Kd.R_alloc | apply Kd.R_drewN | apply Kd.R_drew)); exact HO_287002.out) hb); have n5_ := Aside0.mk (blk_below (g := gb209) (o := .cells #[.int .i64 a0_0, .bool a0_1, .slice A0_2 l0_2.length c0_2] 32 (0, 0)) (by (with_reducible repeat (first | refine blk_drewN ?_ _ | refine blk_drew ?_ | refine blk_alloc ?_ _)); exact BK209.out) hb); have n6_ := Aside0.mk (blk_below (g := gb210) (o := .cells #[.int .i64 a1_0, .bool a1_1, .slice A1_2 l1_2.length c1_2] 32 (0, 0)) (by (with_reducible repeat (first | refine blk_drewN ?_ _ | refine blk_drew ?_ | refine blk_alloc ?_ _)); exact BK210.out) hb); have n7_ := Aside0.mk (blk_below (g := gb229) (o := .cells #[.int .i64 t223, .bool t224, .slice Ao43 t225.length co43] 34 (0, 0)) (by (with_reducible repeat (first | refine blk_drewN ?_ _ | refine blk_drew ?_ | refine blk_alloc ?_ _)); exact BK229.out) hb); have n8_ := Aside0.mk (blk_below (g := gb235) (o := .cells #[.int .i64 t230, .bool t231, .slice Ao53 t263.length co53] 34 (0, 0)) (by (with_reducible repeat (first | refine blk_drewN ?_ _ | refine blk_drew ?_ | refine blk_alloc ?_ _)); exact BK235.out) hb); have n9_ := Aside0.mk (blk_below (g := gb241) (o := .cells #[.int .i64 t236, .bool t237, .slice Ao63 t265.length co63] 34 (0, 0)) (by (with_reducible repeat (first | refine blk_drewN ?_ _ | refine blk_drew ?_ | refine blk_alloc ?_ _)); exact BK241.out) hb); have n10_ := Aside0.mk (blk_below (g := gb248) (o := .cells #[.int .i64 t242, .bool t243, .slice Ao73 t268.length co73] 34 (0, 0)) (by (with_reducible repeat (first | refine blk_drewN ?_ _ | refine blk_drew ?_ | refine blk_alloc ?_ _)); exact BK248.out) hb); have n11_ := Aside0.mk (blk_below (g := gb286) (o := .cells #[.int .i64 t280, .bool t281, .slice Ao162 t282.length co162] 34 (0, 0)) (by (with_reducible repeat (first | refine blk_drewN ?_ _ | refine blk_drew ?_ | refine blk_alloc ?_ _)); exact BK286.out) hb); have n12_ := Aside0.mk (below_step (by repeat (first | (with_reducible first | exact HB.out | apply below_alloc | apply pw_below_drewN | apply below_drew1 | refine below_set ?_ GE209.out | refine below_set ?_ GE210.out | refine below_set ?_ GE229.out | refine below_set ?_ GE235.out | refine below_set ?_ GE241.out | refine below_set ?_ GE248.out | refine below_set ?_ GE286.out) | exact HB.out)) hb); clear HO_230002; clear HO_236002; clear HO_242002; clear HO_249002; clear HO_287002; clear BK209; clear BK210; clear BK229; clear BK235; clear BK241; clear BK248; clear BK286; clear HB; have HO_230002 := n0_; have HO_236002 := n1_; have HO_242002 := n2_; have HO_249002 := n3_; have HO_287002 := n4_; have BK209 := n5_; have BK210 := n6_; have BK229 := n7_; have BK235 := n8_; have BK241 := n9_; have BK248 := n10_; have BK286 := n11_; have HB := n12_; clear n0_ n1_ n2_ n3_ n4_ n5_ n6_ n7_ n8_ n9_ n10_ n11_ n12_; (try clear hb); (try clear hb2); (try clear hk); (try clear hi)))
                    go_ret
                    exact ⟨by first | rfl | (simp [errW_none, errW_some] <;> rfl) | (simp [*, errW_none, errW_some] <;> rfl), by repeat (first | (with_reducible first | exact HB.out | apply below_alloc | apply pw_below_drewN | apply below_drew1 | refine below_set ?_ GE209.out | refine below_set ?_ GE210.out | refine below_set ?_ GE229.out | refine below_set ?_ GE235.out | refine below_set ?_ GE241.out | refine below_set ?_ GE248.out | refine below_set ?_ GE286.out) | exact HB.out)⟩
                  · rw [if_neg c183] at H
                    have c183b0 : (t288 == t267) = false := beq_eq_false_iff_ne.mpr c183
                    have c183b1 : (t288 != t267) = true := bne_iff_ne.mpr c183
                    exact absurd (Option.some.inj H) (by decide)
        · rw [if_neg c138] at H
          have c138b0 : (t269 == t267) = false := beq_eq_false_iff_ne.mpr c138
          have c138b1 : (t269 != t267) = true := bne_iff_ne.mpr c138
          exact absurd (Option.some.inj H) (by decide)
theorem laws_FnExactJoinSeats.calls (k : Nat) (a0_0 : Int) (a0_1 : Bool) (A0_2 : Option Addr) (c0_2 : Nat) (l0_2 : List Int) (a1_0 : Int) (a1_1 : Bool) (A1_2 : Option Addr) (c1_2 : Nat) (l1_2 : List Int) (w : World) (hr0_2 : Kd.C (Kd.int .i64) w A0_2 l0_2.length l0_2) (hc0_2 : l0_2.length ≤ c0_2) (hr1_2 : Kd.C (Kd.int .i64) w A1_2 l1_2.length l1_2) (hc1_2 : l1_2.length ≤ c1_2) (hT : XTab w) (h : laws_FnExactJoinSeats.f k a0_0 a0_1 l0_2 a1_0 a1_1 l1_2 = some true) :
    Calls Tryd.prog 6 #[.agg #[.int .i64 a0_0, .bool a0_1, .slice A0_2 l0_2.length c0_2], .agg #[.int .i64 a1_0, .bool a1_1, .slice A1_2 l1_2.length c1_2]] w fun e w' => e = .returned (.bool true) ∧ Below w.heap.size w w' := laws_FnExactJoinSeats.callsA.2 laws_FnExactJoinSeats.callsB k a0_0 a0_1 A0_2 c0_2 l0_2 a1_0 a1_1 A1_2 c1_2 l1_2 w hr0_2 hc0_2 hr1_2 hc1_2 hT h
/-- THE ONE PURE STATEMENT of laws_FnExactJoinSeats: yours. -/
def laws_FnExactJoinSeats.Pure : Prop := ∀ (a0_0 : Int) (a0_1 : Bool) (l0_2 : List Int) (a1_0 : Int) (a1_1 : Bool) (l1_2 : List Int), (Lit.int .i64 a0_0).wf = true → l0_2.length ≤ maxLen → (∀ x ∈ l0_2, (Lit.int .i64 x).wf = true) → (Lit.int .i64 a1_0).wf = true → l1_2.length ≤ maxLen → (∀ x ∈ l1_2, (Lit.int .i64 x).wf = true) → ∃ k, laws_FnExactJoinSeats.f k a0_0 a0_1 l0_2 a1_0 a1_1 l1_2 = some true
theorem laws_FnExactJoinSeats.walk (P : laws_FnExactJoinSeats.Pure) (a0_0 : Int) (a0_1 : Bool) (a0_2 : Option Addr) (len0_2 cap0_2 : Nat) (z0_2 : List Int) (a1_0 : Int) (a1_1 : Bool) (a1_2 : Option Addr) (len1_2 cap1_2 : Nat) (z1_2 : List Int) (w : World) (w0_0 : (Lit.int .i64 a0_0).wf = true) (w0_2 : (a0_2 = none ∧ len0_2 = 0 ∧ cap0_2 = 0 ∧ z0_2 = []) ∨ ∃ x, a0_2 = some x ∧ len0_2 ≤ cap0_2 ∧ cap0_2 ≤ maxLen ∧ z0_2.length = cap0_2 ∧ (∀ i, i < z0_2.length → w.cell? (x.add i) = some (.int .i64 (z0_2.getD i 0))) ∧ ∀ n ∈ z0_2, (Lit.int .i64 n).wf = true) (w1_0 : (Lit.int .i64 a1_0).wf = true) (w1_2 : (a1_2 = none ∧ len1_2 = 0 ∧ cap1_2 = 0 ∧ z1_2 = []) ∨ ∃ x, a1_2 = some x ∧ len1_2 ≤ cap1_2 ∧ cap1_2 ≤ maxLen ∧ z1_2.length = cap1_2 ∧ (∀ i, i < z1_2.length → w.cell? (x.add i) = some (.int .i64 (z1_2.getD i 0))) ∧ ∀ n ∈ z1_2, (Lit.int .i64 n).wf = true) (hT : XTab w) :
    Calls Tryd.prog 6 #[.agg #[.int .i64 a0_0, .bool a0_1, .slice a0_2 len0_2 cap0_2], .agg #[.int .i64 a1_0, .bool a1_1, .slice a1_2 len1_2 cap1_2]] w fun e w' => e = .returned (.bool true) ∧ Below w.heap.size w w' := by
  obtain ⟨l0_2, rfl, hr0_2, hm0_2, hw0_2, hc0_2⟩ := ReadsInt.ofRowC w0_2
  obtain ⟨l1_2, rfl, hr1_2, hm1_2, hw1_2, hc1_2⟩ := ReadsInt.ofRowC w1_2
  obtain ⟨k, h⟩ := P a0_0 a0_1 l0_2 a1_0 a1_1 l1_2 w0_0 hm0_2 hw0_2 w1_0 hm1_2 hw1_2
  refine (laws_FnExactJoinSeats.calls k a0_0 a0_1 _ _ l0_2 a1_0 a1_1 _ _ l1_2 w (Kd.C_of_reads (d := (0 : Int)) (h1 := fun _ => rfl) hr0_2) hc0_2 (Kd.C_of_reads (d := (0 : Int)) (h1 := fun _ => rfl) hr1_2) hc1_2 hT h).mono ?_
  rintro e w' ⟨rfl, hd⟩
  exact ⟨rfl, hd⟩

end Go.Proofs.YtdbdmdegnmoblaaDoor.PFnExactJoinSeats
