/- TopRight: the law returns true for every input; no condition. -/
import Derived.Test.YtimkmokomohgjaaGreatR03
import Derived.Test.YtimkmokomohgjaaGreatLawTopRight
import Derived.Test.YtimkmokomohgjaaGreatR12
namespace Go.Proofs.YtimkmokomohgjaaGreat.topRight
open Go.ChangeShapes Go.WideShapes Go.ChangeAt Go.RowKit
set_option linter.unusedVariables false

set_option maxRecDepth 100000 in
theorem lifted (os : Os) (started : os.Started) (H : Type) (enc : TypeId × Value → H) :
    ReturnsInHanded {} Tryz.checked os 5 .any (Rows.topRightSpec.pre6 enc Tryz.prog Tryz.f5 Rows.topRightRow.domain false) (Rows.topRightSpec.post enc Tryz.prog Tryz.f5 false true false false) := by
  refine returnsInHanded_of_change (C := Tryz.checked) own started (by kernel_rfl) Tryz.func5
    (ChangeSpec.witness6 (enc := enc) (C := Tryz.checked) false ⟨#[], #[.agg #[.slice none 0 0, .slice none 0 0], .agg #[.int .i64 0, .int .i64 0, .int .i64 0], .agg #[.slice none 0 0, .int .i64 0, .int .i64 0, .int .i64 0], .slice none 0 0, .slice none 0 0, .int .i64 0, .int .i64 0, .int .i64 0, .int .i64 0, .int .i64 0], []⟩ 8 (by kernel_rfl) (by kernel_rfl) (by kernel_rfl) (by kernel_rfl)) ?_
  intro W base args ds gs before hval0 hW hcnd _
  have hval : ∀ (j : Nat) t v, Tryz.f5.params[j]? = some t → args[j]? = some v → Value.okWide Tryz.prog W .any base t v := hval0
  have hW' := hW
  obtain ⟨p, q, hA0, hV, rfl, hfz, hnd⟩ := hW
  have hA : DataW.TrodAll enc Tryz.prog W 0 (fun _ => true) true Tryz.f5.params.toList args.toList ds p := hA0
  rw [Tryz.params5] at hA hval
  obtain ⟨v0, vs0, d0, ds0, p0, q0, hargs, rfl, rfl, h0, r0⟩ := trodAll_cons hA
  obtain ⟨v1, vs1, d1, ds1, p1, q1, rfl, rfl, rfl, h1, r1⟩ := trodAll_cons r0
  obtain ⟨v2, vs2, d2, ds2, p2, q2, rfl, rfl, rfl, h2, r2⟩ := trodAll_cons r1
  obtain ⟨v3, vs3, d3, ds3, p3, q3, rfl, rfl, rfl, h3, r3⟩ := trodAll_cons r2
  obtain ⟨v4, vs4, d4, ds4, p4, q4, rfl, rfl, rfl, h4, r4⟩ := trodAll_cons r3
  obtain ⟨v5, vs5, d5, ds5, p5, q5, rfl, rfl, rfl, h5, r5⟩ := trodAll_cons r4
  obtain ⟨v6, vs6, d6, ds6, p6, q6, rfl, rfl, rfl, h6, r6⟩ := trodAll_cons r5
  obtain ⟨v7, vs7, d7, ds7, p7, q7, rfl, rfl, rfl, h7, r7⟩ := trodAll_cons r6
  obtain ⟨v8, vs8, d8, ds8, p8, q8, rfl, rfl, rfl, h8, r8⟩ := trodAll_cons r7
  obtain ⟨v9, vs9, d9, ds9, p9, q9, rfl, rfl, rfl, h9, r9⟩ := trodAll_cons r8
  obtain ⟨rfl, rfl, rfl⟩ := trodAll_nil r9
  obtain rfl : args = #[v0, v1, v2, v3, v4, v5, v6, v7, v8, v9] := by cases args; simp_all
  obtain ⟨rfl, rfl⟩ := trodVars_none hV
  obtain ⟨A, c, Bb, cb, links, hands, rfl, hm, hcap, hh⟩ := open_pieceV (hval 0 _ v0 rfl rfl) h0
  obtain ⟨a0, a1, a2, rfl⟩ := open_arr3V (hval 1 _ v1 rfl rfl) h1
  obtain ⟨s, As, cs, rfl, hb⟩ := open_skyV (hval 2 _ v2 rfl rfl) h2
  obtain ⟨feasts, Af, cf, rfl, hf, _⟩ := open_set (hval 3 _ v3 rfl rfl) h3
  obtain ⟨set, At, ct, rfl, ht, _⟩ := open_set (hval 4 _ v4 rfl rfl) h4
  obtain ⟨day, rfl, rfl, rfl, w5⟩ := open_int Tryz.underlying3 (hval 5 _ v5 rfl rfl) h5
  obtain ⟨new, rfl, rfl, rfl, w6⟩ := open_int Tryz.underlying3 (hval 6 _ v6 rfl rfl) h6
  obtain ⟨full, rfl, rfl, rfl, w7⟩ := open_int Tryz.underlying3 (hval 7 _ v7 rfl rfl) h7
  obtain ⟨lo, rfl, rfl, rfl, w8⟩ := open_int Tryz.underlying3 (hval 8 _ v8 rfl rfl) h8
  obtain ⟨hi, rfl, rfl, rfl, w9⟩ := open_int Tryz.underlying3 (hval 9 _ v9 rfl rfl) h9
  refine (law_TopRight A c Bb cb links hands a0 a1 a2 s As cs feasts Af cf set At ct day new full lo hi W (fun W _ => known20_true W) hm hh hcap hb hf ht).mono fun e W' ⟨he, hE⟩ => ?_
  subst he
  exact ⟨_, rfl, post_true hW' rfl rfl hE (by rw [Tryz.params5]; intro t ht; simp at ht; rcases ht with rfl | rfl | rfl | rfl | rfl <;> exact ⟨by kernel_rfl, of_decide_eq_true (by kernel_rfl)⟩) rfl rfl rfl⟩

theorem proved : Rows.TopRightSaid :=
  OpenClaim.holds_of_wide 5 Tryz.f5 rfl rfl rfl rfl rfl rfl rfl ⟨rfl, rfl, rfl, rfl, rfl⟩ rfl rfl rfl rfl rfl (by kernel_rfl) Tryz.func5 (by kernel_rfl)
    (of_decide_eq_true (by kernel_rfl)) (by unfold Func.isWrapper; first | (rw [if_pos (by decide +kernel)]; kernel_rfl) | (rw [if_neg (by decide +kernel)]; exact ⟨rfl, rfl⟩))
    (fun os started H enc _ => lifted os started H enc)
end Go.Proofs.YtimkmokomohgjaaGreat.topRight
