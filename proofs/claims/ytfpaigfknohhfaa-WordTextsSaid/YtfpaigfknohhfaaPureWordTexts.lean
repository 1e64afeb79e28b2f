/- WordTexts, pure: any word's text is read as it; any text is a word's, or none (of at most 3000 bytes). -/
import Derived.Test.YtfpaigfknohhfaaWdF
namespace Go.Proofs.Ytfpaigfknohhfaa.Pure
open Go.RowKit Go.Proofs.Ytfpaigfknohhfaa.X Go.Proofs.YtfpaigfknohhfaaW.PrintWords Go.Proofs.YtfpaigfknohhfaaW.PrintLast

theorem cut_is (s : ByteArray) : ∃ t, brazierlaw01_cut.f s = some t ∧ t.size ≤ 3000 := by
  have h : 0 ≤ mn (s.size : Int) 3000 ∧ mn (s.size : Int) 3000 ≤ s.size ∧ mn (s.size : Int) 3000 ≤ 3000 := by unfold mn; split <;> omega
  unfold brazierlaw01_cut.f
  rw [if_pos h.1, if_pos h.2.1]
  refine ⟨_, rfl, ?_⟩
  rw [← bs_len, bs_extract, List.length_take]
  omega
theorem decS_inj {a b : Int} (h : decS a = decS b) : a = b := by
  by_cases ca : a < 0 <;> by_cases cb : b < 0
  · rw [decS_neg ca, decS_neg cb] at h
    simp at h
    have h2 : ((a.natAbs : Nat) : Int) = b.natAbs := by rw [← val_digs a.natAbs, h, val_digs]
    omega
  · rw [decS_neg ca, decS_pos cb] at h; exact absurd h.symm (digs_no45 _ _)
  · rw [decS_pos ca, decS_neg cb] at h; exact absurd h (digs_no45 _ _)
  · rw [decS_pos ca, decS_pos cb] at h
    have h2 : ((a.natAbs : Nat) : Int) = b.natAbs := by rw [← val_digs a.natAbs, h, val_digs]
    omega
theorem WordTexts : brazierlaw01_WordTexts.Pure := by
  intro n s h0 h1
  have hn := wf32 h0
  obtain ⟨t, ht, hsz⟩ := cut_is s
  obtain ⟨k, hk⟩ : ∃ k : Nat, k = 8589999999 := ⟨_, rfl⟩
  refine ⟨k + 1, ?_⟩
  have hlv := at_rounds brazierlaw01_lives.mono (show 40 ≤ k by omega) lives_at
  unfold brazierlaw01_WordTexts.f
  rw [ht]
  simp only [Option.bind_some]
  rw [dec_is n hn (k + 1) (by omega)]
  simp only [Option.bind_some]
  rw [parse_yes _ n hn (bs_of (decS_8 n)) (k + 1) (by omega), w64 (by omega) (by omega), refdec_is n ⟨by omega, by omega⟩ (k + 1) (by omega)]
  simp only [Option.bind_some, if_true, bne_self_eq_false, brazierlaw01_WordTexts.j0, Bool.false_eq_true, if_false]
  obtain ⟨r, hr, hrt⟩ := refparse_is t k (by omega)
  have hp : Tells t (word_Parse.f k t) := parse_tells t t.size 0 0 k (by decide) (by decide) (by decide) (by omega) (by omega) (by omega)
  rw [hr]
  rcases hrt with ⟨m, hm, rfl, hs⟩ | ⟨rfl, hno⟩
  · rw [parse_yes t m hm hs k (by omega)]
    simp [hlv]
  · rcases hp with e | ⟨m, hm, e, hs⟩
    · rw [e]; simp [hlv]
    · exact absurd hs (hno m hm)
end Go.Proofs.Ytfpaigfknohhfaa.Pure
