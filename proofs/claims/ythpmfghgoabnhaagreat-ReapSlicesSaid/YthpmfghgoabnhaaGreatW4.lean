/- Contracts: names and patterns, by the document's answer. -/
import Derived.Test.YthpmfghgoabnhaaGreatCo
import Derived.Test.YthpmfghgoabnhaaGreatSp2
set_option linter.all false
namespace Go.Proofs.YthpmfghgoabnhaaGreat
open Go.Abs Go.Proofs
theorem R05_in_pc (n lo hi : Int) : PC L F.R05_in [.int .i64 n, .int .i64 lo, .int .i64 hi] (.bool (inR n lo hi)) := by
  refine pc_of LF.R05_in rfl rfl ?_
  simp only [go_sem, qW, C.R05_in]
  refine guard_split (fun h => ?_) (fun h => ?_) <;> simp only [go_sem, qW, h] <;> simp at h <;> simp [h, inR]
  omega
theorem R01_small_pc (s : ByteArray) (hs : Few s.size) : PC L F.R01_small [.str s] (.bool (smallL (octs s))) := by
  refine pc_of LF.R01_small rfl rfl ?_
  simp only [go_sem, qW, C.R01_small]
  refine wp_for (s.size) (fun k st => ∃ fr en cnt, st = ⟨fr, en, cnt⟩ ∧ (fr 0 = .str s) ∧ (fr 3 = .int .i64 k) ∧ (((octs s).drop k).all isSmall = (octs s).all isSmall)) 0 (Nat.zero_le _) ⟨_, _, _, rfl, (by first | (simp only [go_sem, qW]; (try rfl); done) | rfl | simp), (by first | (simp only [go_sem, qW]; (try rfl); done) | rfl | simp), (by first | (simp only [go_sem, qW]; (try rfl); done) | rfl | simp)⟩ ?_
  rintro k st hk ⟨fr, en, cnt, rfl, h0, h3, hI⟩
  have hsz := octs_len s
  simp only [go_sem, qW, h0, h3]
  refine wcond_split (fun h => ?_) (fun h => ?_)
  · have h' : k < s.size := of_decide_eq_true h
    have h'' : k < (octs s).length := by omega
    rw [all_step h''] at hI
    simp only [go_sem, qW, h', h'', h0, h3, ixs_oct h'']
    refine guard_split (fun hb => ?_) (fun hb => ?_)
    · simp only [go_sem, qW, h', hb, h0, h3, ixs_oct h'']
      refine wcond_split (fun hc => ?_) (fun hc => ?_)
      · simp only [decide_eq_true_eq, decide_eq_false_iff_not] at hb hc
        have : isSmall (octs s)[k] = false := by simp only [isSmall, Bool.and_eq_false_iff, decide_eq_false_iff_not]; right; omega
        simp [smallL, ← hI, this]
      · simp only [decide_eq_true_eq, decide_eq_false_iff_not] at hb hc
        have : isSmall (octs s)[k] = true := by simp only [isSmall, Bool.and_eq_true, decide_eq_true_eq]; constructor <;> omega
        refine ⟨_, _, _, rfl, ?_⟩
        simp only [go_sem, qW, h0, h3, wrap_succ h' hs]
        rw [← hI, this]; simp
    · simp only [go_sem, qW, hb, Bool.not_false, h0, h3]
      simp only [decide_eq_true_eq, Bool.not_false] at hb
      have : isSmall (octs s)[k] = false := by simp only [isSmall, Bool.and_eq_false_iff, decide_eq_false_iff_not]; left; omega
      simp [smallL, ← hI, this]
  · have : k = s.size := by simp at h; omega
    subst this
    try simp only [go_sem, qW, h0, h3]
    rw [smallL, ← hI, ← hsz]; simp
theorem R01_Has_pc (l : List ByteArray) (s : ByteArray) (hl : Few l.length) : PC L F.R01_Has [.fz (l.map .str), .str s] (.bool (hasStr l s)) := by
  refine pc_of LF.R01_Has rfl rfl ?_
  simp only [go_sem, qW, C.R01_Has]
  refine wp_for (l.length) (fun k st => ∃ fr en cnt, st = ⟨fr, en, cnt⟩ ∧ (fr 0 = .fz (l.map .str)) ∧ (fr 1 = .str s) ∧ (fr 5 = .int .i64 k) ∧ ((l.drop k).any (fun x => strEq x s) = l.any fun x => strEq x s)) 0 (Nat.zero_le _) ⟨_, _, _, rfl, (by first | (simp only [go_sem, qW]; (try rfl); done) | rfl | simp), (by first | (simp only [go_sem, qW]; (try rfl); done) | rfl | simp), (by first | (simp only [go_sem, qW]; (try rfl); done) | rfl | simp), (by first | (simp only [go_sem, qW]; (try rfl); done) | rfl | simp)⟩ ?_
  rintro k st hk ⟨fr, en, cnt, rfl, h0, h1, h5, hI⟩
  simp only [go_sem, qW, h0, h1, h5]
  refine wcond_split (fun h => ?_) (fun h => ?_)
  · have h' : k < l.length := of_decide_eq_true h
    rw [any_step h'] at hI
    simp only [go_sem, qW, h', h0, h1, h5]
    refine wcond_split (fun hb => ?_) (fun hb => ?_)
    · rw [hasStr, ← hI, strEq, hb]; rfl
    · refine ⟨_, _, _, rfl, ?_⟩
      simp only [go_sem, qW, h0, h1, h5, wrap_succ h' hl]
      rw [← hI, strEq, hb]; simp
  · have : k = l.length := by simp at h; omega
    subst this
    try simp only [go_sem, qW, h0, h1, h5]
    rw [hasStr, ← hI]; simp
theorem R01_Differ_pc (l : List ByteArray) (hl : Few l.length) : PC L F.R01_Differ [.fz (l.map .str)] (.bool (apartStr [] l)) := by
  refine pc_of LF.R01_Differ rfl rfl ?_
  simp only [go_sem, qW, C.R01_Differ]
  refine wp_for (l.length) (fun k st => ∃ fr en cnt, st = ⟨fr, en, cnt⟩ ∧ (fr 0 = .fz (l.map .str)) ∧ (fr 3 = .int .i64 k) ∧ (apartStr (l.take k) (l.drop k) = apartStr [] l)) 0 (Nat.zero_le _) ⟨_, _, _, rfl, (by first | (simp only [go_sem, qW]; (try rfl); done) | rfl | simp), (by first | (simp only [go_sem, qW]; (try rfl); done) | rfl | simp), (by first | (simp only [go_sem, qW]; (try rfl); done) | rfl | simp)⟩ ?_
  rintro k st hk ⟨fr, en, cnt, rfl, h0, h3, hI⟩
  simp only [go_sem, qW, h0, h3]
  refine wcond_split (fun h => ?_) (fun h => ?_)
  · have h' : k < l.length := of_decide_eq_true h
    rw [List.drop_eq_getElem_cons h', apartStr, ← take_step h'] at hI
    simp only [go_sem, qW, h', h0, h3, slice_to, hk, ← List.map_take, (R01_Has_pc _ _ (few_take hl k)).ret]
    refine wcond_split (fun hb => ?_) (fun hb => ?_)
    · rw [← hI, hb]; rfl
    · refine ⟨_, _, _, rfl, ?_⟩
      simp only [go_sem, qW, h0, h3, wrap_succ h' hl]
      rw [← hI, hb]; simp
  · have : k = l.length := by simp at h; omega
    subst this
    try simp only [go_sem, qW, h0, h3]
    rw [← hI]; simp [apartStr]
theorem slice_str1 {s : ByteArray} {en : En} (h : 1 ≤ s.size) : opSlice true 1 en (.str s) (some (.int .i64 1)) none none = some { v := .str (s.extract 1 s.size) } := by
  have : bound (some (.int .i64 1)) 0 s.size = some 1 := by
    simp only [bound]; rw [if_pos ⟨by omega, by omega⟩]; rfl
  simp [opSlice, bound_no, this]
theorem great_list {l : List UInt8} {n : Nat} (hn : l.length = n) (h : 0 < l.length) : greatL l = (decide ((n : Int) ≤ 8) && decide ((65 : Int) ≤ (l[0].toNat : Int)) && decide ((l[0].toNat : Int) ≤ 90) && smallL (l.drop 1)) := by
  cases l with
  | nil => simp at h
  | cons b l =>
    have e : decide ((b :: l).length ≤ 8) = decide ((n : Int) ≤ 8) := by rw [decide_eq_decide, hn]; omega
    simp only [greatL, e, List.getElem_cons_zero, List.drop_succ_cons, List.drop_zero]
theorem R01_Great_pc (s : ByteArray) (hs : Few s.size) : PC L F.R01_Great [.str s] (.bool (greatL (octs s))) := by
  refine pc_of LF.R01_Great rfl rfl ?_
  simp only [go_sem, qW, C.R01_Great]
  refine guard_split (fun h => ?_) (fun h => ?_)
  · have h' : 1 ≤ s.size := by simp at h; omega
    have h0 : 0 < (octs s).length := by rw [octs_len]; omega
    have hix := fun (k : IntKind) => ixs_oct (k := k) h0
    simp only [Int.natCast_zero] at hix
    rw [great_list (octs_len s) h0]
    simp only [go_sem, qW, h]
    refine guard_split (fun h1 => ?_) (fun h1 => ?_) <;> simp only [go_sem, qW, h1, hix]
    refine guard_split (fun h2 => ?_) (fun h2 => ?_) <;> simp only [go_sem, qW, h1, h2, hix]
    refine guard_split (fun h3 => ?_) (fun h3 => ?_) <;> simp only [go_sem, qW, h1, h2, h3, slice_str1 h', (R01_small_pc _ (show Few (s.extract 1 s.size).size by unfold Few at *; simp; omega)).ret, octs_tail]
    all_goals simp only [decide_eq_true_eq, decide_eq_false_iff_not, Bool.not_true] at *
    all_goals simp [*]
  · have : s.size = 0 := by simp at h; omega
    have e : octs s = [] := by rw [← List.length_eq_zero_iff, octs_len, this]
    simp only [go_sem, qW, h]
    rw [e]; rfl
theorem R05_kids_pc (op n a : Int) (hn : 0 ≤ n ∧ n ≤ 1000) : PC L F.R05_kids [.int .i64 op, .int .i64 n, .int .i64 a] (.int .i64 (kidsOf op n a)) := by
  have e : IntKind.i64.wrap (1 + n) = 1 + n := wrap_in (by omega)
  refine pc_of LF.R05_kids rfl rfl ?_
  simp only [go_sem, qC, qG, qW, C.R05_kids, e]
  repeat' ((first | with_reducible refine condK_split (fun h => ?_) (fun h => ?_) | with_reducible refine guardK_split (fun h => ?_) (fun h => ?_)) <;> (try simp only [decide_eq_true_eq, decide_eq_false_iff_not, Bool.not_true, Bool.not_false] at h) <;> try simp only [go_sem, qC, qG, qW, h, e])
  all_goals simp [kidsOf, *]
theorem R01_WeighPat_pc : ∀ q : Pat, q.few → ∀ left : Int, -1 ≤ left → left ≤ 1000 → PC L F.R01_WeighPat [.agg [.int .i64 q.form, .int .i64 q.n, .str q.text, .fz (q.parts.map Pat.enc)], .int .i64 left] (.int .i64 (weigh q left)) := by
  refine Pat.ind fun q ih hq left h1 h2 => ?_
  obtain ⟨hl, _, hps⟩ := Pat.few_parts hq
  refine pc_of LF.R01_WeighPat rfl rfl ?_
  simp only [go_sem, qW, C.R01_WeighPat]
  refine wcond_split (fun h => ?_) (fun h => ?_) <;> simp only [decide_eq_true_eq, decide_eq_false_iff_not] at h
  · simp [weigh_eq, h]
  · have e : IntKind.i64.wrap (left - 1) = left - 1 := wrap_in (by omega)
    rw [weigh_eq, if_neg h]
    try simp only [go_sem, qW, e]
    refine wp_for q.parts.length (fun k st => ∃ fr en cnt a, st = ⟨fr, en, cnt⟩ ∧ fr 1 = .int .i64 a ∧ fr 5 = .int .i64 k ∧ fr 2 = .ptr ⟨0, 2, 0⟩ 0 ∧ en ⟨0, 2, 0⟩ = some (.box [.int .i64 q.form, .int .i64 q.n, .str q.text, .fz (q.parts.map Pat.enc)] false) ∧ -1 ≤ a ∧ a ≤ 1000 ∧ weighs (q.parts.drop k) a = weighs q.parts (left - 1)) 0 (Nat.zero_le _) ⟨_, _, _, left - 1, rfl, by simp only [go_sem, qW], by simp only [go_sem, qW], by simp only [go_sem, qW], by simp only [go_sem, qW], by omega, by omega, rfl⟩ ?_
    rintro k st hk ⟨fr, en, cnt, a, rfl, h1, h5, h2, e2, ha, hb, hI⟩
    simp only [go_sem, qW, h1, h5, h2, e2]
    refine guard_split (fun hc => ?_) (fun hc => ?_)
    · have h' : k < q.parts.length := of_decide_eq_true hc
      rw [List.drop_eq_getElem_cons h', weighs] at hI
      have hm : q.parts[k] ∈ q.parts := List.getElem_mem _
      simp only [go_sem, qW, hc, h', h1, h5, h2, e2]
      refine wcond_split (fun hd => ?_) (fun hd => ?_) <;> simp only [decide_eq_true_eq, decide_eq_false_iff_not] at hd
      · rw [if_pos hd] at hI
        have hw := weigh_le q.parts[k] a ha
        simp only [go_sem, qW, h', h1, h5, h2, e2, (ih _ hm (hps _ hm) a ha hb).ret]
        refine ⟨_, _, _, weigh q.parts[k] a, rfl, ?_⟩
        simp only [go_sem, qW, h', h1, h5, h2, e2, wrap_succ h' hl]
        exact ⟨hw.1, by omega, hI⟩
      · rw [if_neg hd] at hI
        try simp only [go_sem, qW, h', h1, h5, h2, e2]
        rw [hI]
    · have : k = q.parts.length := by simp at hc; omega
      subst this
      try simp only [go_sem, qW, hc, h1, h5, h2, e2]
      rw [← hI]; simp [weighs]
theorem R01_smallPat_pc : ∀ q : Pat, q.few → PC L F.R01_smallPat [.agg [.int .i64 q.form, .int .i64 q.n, .str q.text, .fz (q.parts.map Pat.enc)]] (.bool (smallTexts q)) := by
  refine Pat.ind fun q ih hq => ?_
  obtain ⟨hl, _, hps⟩ := Pat.few_parts hq
  refine pc_of LF.R01_smallPat rfl rfl ?_
  simp only [go_sem, qW, C.R01_smallPat]
  refine wp_for (q.parts.length) (fun k st => ∃ fr en cnt, st = ⟨fr, en, cnt⟩ ∧ (fr 1 = .ptr ⟨0, 1, 0⟩ 0) ∧ (en ⟨0, 1, 0⟩ = some (.box [.int .i64 q.form, .int .i64 q.n, .str q.text, .fz (q.parts.map Pat.enc)] false)) ∧ (fr 3 = .int .i64 k) ∧ ((q.parts.drop k).all smallTexts = q.parts.all smallTexts)) 0 (Nat.zero_le _) ⟨_, _, _, rfl, (by first | (simp only [go_sem, qW]; (try rfl); done) | rfl | simp), (by first | (simp only [go_sem, qW]; (try rfl); done) | rfl | simp), (by first | (simp only [go_sem, qW]; (try rfl); done) | rfl | simp), (by first | (simp only [go_sem, qW]; (try rfl); done) | rfl | simp)⟩ ?_
  rintro k st hk ⟨fr, en, cnt, rfl, h1, e1, h3, hI⟩
  simp only [go_sem, qW, h1, e1, h3]
  refine wcond_split (fun h => ?_) (fun h => ?_)
  · have h' : k < q.parts.length := of_decide_eq_true h
    have hm : q.parts[k] ∈ q.parts := List.getElem_mem _
    rw [all_step h'] at hI
    simp only [go_sem, qW, h', h1, e1, h3, (ih _ hm (hps _ hm)).ret]
    refine wcond_split (fun hb => ?_) (fun hb => ?_)
    · simp at hb
      rw [smallTexts_eq, ← hI, hb]; rfl
    · simp at hb
      refine ⟨_, _, _, rfl, ?_⟩
      simp only [go_sem, qW, h1, e1, h3, wrap_succ h' hl]
      rw [← hI, hb]; simp
  · have : k = q.parts.length := by simp at h; omega
    subst this
    have ht : q.parts.all smallTexts = true := by rw [← hI]; simp
    try simp only [go_sem, qW, h1, e1, h3]
    rw [smallTexts_eq, ht]; rfl
theorem R01_SmallPat_pc (q : Pat) (hq : q.few) : PC L F.R01_SmallPat [.agg [.int .i64 q.form, .int .i64 q.n, .str q.text, .fz (q.parts.map Pat.enc)]] (.bool (smallPat q)) := by
  refine pc_of LF.R01_SmallPat rfl rfl ?_
  simp only [go_sem, qW, C.R01_SmallPat, (R01_WeighPat_pc q hq 16 (by omega) (by omega)).ret]
  refine guard_split (fun h => ?_) (fun h => ?_) <;> simp only [go_sem, qW, h, (R01_smallPat_pc q hq).ret] <;> simp at h <;> simp [smallPat, h]
  intros; omega
theorem R05_pat_pc (cons : List BCon) (hc : Few cons.length) : ∀ q : Pat, q.few → PC L F.R05_pat [.agg [.int .i64 q.form, .int .i64 q.n, .str q.text, .fz (q.parts.map Pat.enc)], .fz (cons.map BCon.enc)] (.bool (patOk cons q)) := by
  refine Pat.ind fun q ih hq => ?_
  obtain ⟨hl, _, hps⟩ := Pat.few_parts hq
  refine pc_of LF.R05_pat rfl rfl ?_
  have e := wrap_pred hc
  simp only [go_sem, wp_seq_ops, Go.Abs.start, qC, qG, C.R05_pat]
  refine wp_cut' (fun st => (st.fr 1 = .fz (cons.map BCon.enc)) ∧ (st.fr 2 = .ptr ⟨0, 2, 0⟩ 0) ∧ (st.en ⟨0, 2, 0⟩ = some (.box [.int .i64 q.form, .int .i64 q.n, .str q.text, .fz (q.parts.map Pat.enc)] false)) ∧ (st.fr 6 = .int .i64 q.parts.length) ∧ (st.fr 5 = .bool (patHead0 cons q.form q.n q.parts.length))) ?_ ?_
  · simp only [go_sem, qC, qG, qW, e, (R05_in_pc _ _ _).ret]
    repeat' ((first | with_reducible refine condK_split (fun h => ?_) (fun h => ?_) | with_reducible refine guardK_split (fun h => ?_) (fun h => ?_)) <;> (try simp only [decide_eq_true_eq, decide_eq_false_iff_not, Bool.not_true, Bool.not_false] at h) <;> try simp only [go_sem, qC, qG, qW, *, (R05_in_pc _ _ _).ret, ia_con])
    all_goals try simp [patHead0, *]
    all_goals (intro h0; exact absurd (by simp [h0]) h)
  · rintro fr en cnt ⟨(h1 : fr 1 = .fz (cons.map BCon.enc)), (h2 : fr 2 = .ptr ⟨0, 2, 0⟩ 0), (e2 : en ⟨0, 2, 0⟩ = some (.box [.int .i64 q.form, .int .i64 q.n, .str q.text, .fz (q.parts.map Pat.enc)] false)), (h6 : fr 6 = .int .i64 q.parts.length), (h5 : fr 5 = .bool (patHead0 cons q.form q.n q.parts.length))⟩
    refine wp_cut' (fun st => (st.fr 1 = .fz (cons.map BCon.enc)) ∧ (st.fr 2 = .ptr ⟨0, 2, 0⟩ 0) ∧ (st.en ⟨0, 2, 0⟩ = some (.box [.int .i64 q.form, .int .i64 q.n, .str q.text, .fz (q.parts.map Pat.enc)] false)) ∧ (st.fr 6 = .int .i64 q.parts.length) ∧ (st.fr 5 = .bool (patHead cons q.form q.n q.text q.parts.length))) ?_ ?_
    · simp only [go_sem, qC, qG, qW, h1, h2, e2, h6, h5]
      repeat' ((first | with_reducible refine condK_split (fun h => ?_) (fun h => ?_) | with_reducible refine guardK_split (fun h => ?_) (fun h => ?_)) <;> (try simp only [decide_eq_true_eq, decide_eq_false_iff_not, Bool.not_true, Bool.not_false] at h) <;> try simp only [go_sem, qC, qG, qW, *])
      all_goals simp [patHead, noText, *]
    · rintro fr en cnt ⟨(h1 : fr 1 = .fz (cons.map BCon.enc)), (h2 : fr 2 = .ptr ⟨0, 2, 0⟩ 0), (e2 : en ⟨0, 2, 0⟩ = some (.box [.int .i64 q.form, .int .i64 q.n, .str q.text, .fz (q.parts.map Pat.enc)] false)), (h6 : fr 6 = .int .i64 q.parts.length), (h5 : fr 5 = .bool (patHead cons q.form q.n q.text q.parts.length))⟩
      rw [patOk_eq]
      generalize patHead cons q.form q.n q.text q.parts.length = b0 at h5
      simp only [go_sem, qC, qG, qW, h1, h2, e2, h6, h5]
      refine wp_for q.parts.length (fun k st => ∃ fr en cnt b, st = ⟨fr, en, cnt⟩ ∧ fr 1 = .fz (cons.map BCon.enc) ∧ fr 7 = .int .i64 k ∧ fr 6 = .int .i64 q.parts.length ∧ fr 2 = .ptr ⟨0, 2, 0⟩ 0 ∧ en ⟨0, 2, 0⟩ = some (.box [.int .i64 q.form, .int .i64 q.n, .str q.text, .fz (q.parts.map Pat.enc)] false) ∧ fr 5 = .bool b ∧ (b && (q.parts.drop k).all (patOk cons)) = (b0 && q.parts.all (patOk cons))) 0 (Nat.zero_le _) ⟨_, _, _, b0, rfl, by simp only [go_sem, h1, h2, e2, h6, h5], by simp only [go_sem, h1, h2, e2, h6, h5], by simp only [go_sem, h1, h2, e2, h6, h5], by simp only [go_sem, h1, h2, e2, h6, h5], by simp only [go_sem, h1, h2, e2, h6, h5], by simp only [go_sem, h1, h2, e2, h6, h5], rfl⟩ ?_
      rintro k st hk ⟨fr, en, cnt, b, rfl, h1, h7, h6, h2, e2, h5, hI⟩
      simp only [go_sem, qC, qG, qW, h1, h7, h6, h2, e2, h5]
      refine guardK_split (fun hd => ?_) (fun hd => ?_)
      · have h' : k < q.parts.length := of_decide_eq_true hd
        have hm : q.parts[k] ∈ q.parts := List.getElem_mem _
        rw [all_step h'] at hI
        simp only [go_sem, qC, qG, qW, hd, h', h1, h7, h6, h2, e2, h5]
        refine condK_split (fun hb => ?_) (fun hb => ?_)
        · simp only [go_sem, qC, qG, qW, hd, h', h1, h7, h6, h2, e2, h5, (ih _ hm (hps _ hm)).ret]
          refine ⟨_, _, _, patOk cons q.parts[k], rfl, ?_⟩
          simp only [go_sem, qC, qG, qW, h', h1, h7, h6, h2, e2, h5, wrap_succ h' hl]
          rw [← hI, hb]; simp
        · simp only [go_sem, qC, qG, qW, hd, h', h1, h7, h6, h2, e2, h5]
          rw [← hI, hb]; simp
      · have : k = q.parts.length := by simp at hd; omega
        subst this
        simp only [go_sem, qC, qG, qW, hd, h1, h7, h6, h2, e2, h5]
        rw [← hI]; simp
theorem R05_cons_pc (l : List BCon) (hl : l.length ≤ 1000) (hs : ∀ c ∈ l, Few c.name.size) : PC L F.R05_cons [.fz (l.map BCon.enc)] (.bool (consOk l)) := by
  have hf : Few l.length := by unfold Few; omega
  refine pc_of LF.R05_cons rfl rfl ?_
  simp only [go_sem, qC, qG, qW, C.R05_cons]
  refine wp_for l.length (fun k st => ∃ fr en cnt, st = ⟨fr, en, cnt⟩ ∧ fr 0 = .fz (l.map BCon.enc) ∧ fr 4 = .int .i64 k ∧ Mine en (fr 3) 1 ((l.take k).map fun c => .str c.name) [34] ∧ (l.drop k).all conOk = l.all conOk) 0 (Nat.zero_le _) ⟨_, _, _, rfl, by simp only [go_sem, qW], by simp only [go_sem, qW], by simp only [go_sem, qW]; exact Mine.nil _ _, rfl⟩ ?_
  rintro k st hk ⟨fr, en, cnt, rfl, h0, h4, h3, hI⟩
  simp only [go_sem, qC, qG, qW, h0, h4]
  refine condK_split (fun h => ?_) (fun h => ?_)
  · have h' : k < l.length := of_decide_eq_true h
    have hm : l[k] ∈ l := List.getElem_mem _
    rw [all_step h'] at hI
    simp only [go_sem, qC, qG, qW, h', h0, h4, (R01_Great_pc _ (hs _ hm)).ret]
    refine guardK_split (fun hb => ?_) (fun hb => ?_)
    · simp only [go_sem, qC, qG, qW, hb, h', h0, h4, (R05_in_pc _ _ _).ret]
      refine condK_split (fun hc => ?_) (fun hc => ?_)
      · simp only [go_sem, qC, qG, qW]
        simp at hc
        simp [consOk, ← hI, conOk, hc]
      · simp only [go_sem, qC, qG, qW, h', h0, h4]
        simp at hb hc
        have hk2 : conOk l[k] = true := by simp [conOk, hb, hc]
        have hx : Mine en (St.get (fun i => fr i) (.t 3)) 1 ((l.take k).map fun c => Val.str c.name) [34] := h3
        refine w_append (D := [34]) (xs := (l.take k).map fun c => Val.str c.name) (ys := [.str l[k].name]) (rs := []) ?_ ?_ ?_ ?_ ?_
        · simp only [go_sem, qW]; exact h3
        · simp only [go_sem, qW]
        · rfl
        · simp; omega
        · intro v en' cnt' hown hen hcnt
          simp only [go_sem, qC, qG, qW, h', h0, h4]
          refine ⟨_, _, _, rfl, ?_⟩
          simp only [go_sem, qC, qG, qW, h', h0, h4, wrap_succ h' hf]
          refine ⟨?_, ?_⟩
          · exact Mine.sub (by rw [take_step h', List.map_append]; exact hown) (by simp)
          · rw [← hI, hk2]; simp
    · simp only [go_sem, qC, qG, qW, hb, Bool.not_false]
      simp at hb
      simp [consOk, ← hI, conOk, hb]
  · have : k = l.length := by simp at h; omega
    subst this
    have ha : l.all conOk = true := by rw [← hI]; simp
    simp only [go_sem, qC, qG, qW, h0]
    refine guardK_split (fun hb => ?_) (fun hb => ?_)
    · rw [List.take_length] at h3
      have hmap : (l.map fun c => Val.str c.name) = (l.map BCon.name).map .str := by simp
      simp only [go_sem, qC, qG, qW, hb]
      obtain ⟨r, ks, e1, _, e2, _⟩ := h3.snap 7
      have hd := R01_Differ_pc (l.map BCon.name) (by simpa using hf)
      rw [← hmap] at hd
      simp only [go_sem, qC, qG, qW, e1, e2, hd.ret]
      simp at hb
      simp [consOk, ha, hb]
    · simp only [go_sem, qC, qG, qW, hb]
      simp at hb
      simp [consOk, hb]
      intros; omega
end Go.Proofs.YthpmfghgoabnhaaGreat
