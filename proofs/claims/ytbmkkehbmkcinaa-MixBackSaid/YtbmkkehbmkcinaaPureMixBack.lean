/- For all keys, unstirring undoes stirring and the other way round, so different keys are stirred to different numbers. No condition. -/
import Derived.Test.YtbmkkehbmkcinaaPAllx9
import Derived.Test.YtbmkkehbmkcinaaMixF
namespace Go.Proofs.Ytbmkkehbmkcinaa.Pure
open Go.RowKit Go.Proofs.Ytbmkkehbmkcinaa.PAll Go.Proofs.Ytbmkkehbmkcinaa.MixF Go.Proofs.YtbmkkehbmkcinaaW.PrintWords Go.Proofs.YtbmkkehbmkcinaaW.PrintLast Go.Proofs.YtbmkkehbmkcinaaW.PrintMore

theorem MixBack : counterpanelaw03_MixBack.Pure := by
  intro a b ha hb
  obtain ⟨a, rfl⟩ := of_u64 ha
  obtain ⟨b, rfl⟩ := of_u64 hb
  refine ⟨70, ?_⟩
  have e : ((n (mix a) == n (mix b)) == (n a == n b)) = true := by
    by_cases h : a = b
    · subst h; simp
    · have h1 : n a ≠ n b := fun e => h (n_inj e)
      have h2 : n (mix a) ≠ n (mix b) := fun e => h (mix_inj (n_inj e))
      have h3 : (n a == n b) = false := by simpa using h1
      have h4 : (n (mix a) == n (mix b)) = false := by simpa using h2
      rw [h3, h4]; rfl
  rw [counterpanelaw03_MixBack.f, mix_f, Option.bind_some, unmix_f 67, Option.bind_some, unmix_mix, if_pos rfl, unmix_f 67, Option.bind_some, mix_f, Option.bind_some, mix_unmix, if_pos rfl, Option.bind_some, mix_f, Option.bind_some, if_pos e, works_f 70 (by omega)]
  rfl

end Go.Proofs.Ytbmkkehbmkcinaa.Pure
