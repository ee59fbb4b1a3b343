/- The pure statement of FnExactNextSeed: the printed functions of the program and of the reference answer alike for every seed. No condition. -/
import Derived.Test.YtckdinepbgilfaaPFnExactNextSeedx1
namespace Go.Proofs.Ytckdinepbgilfaa.Pure
open Go.RowKit Go.Proofs.Ytckdinepbgilfaa.PFnExactNextSeed Go.Proofs.YtckdinepbgilfaaW.PrintWords Go.Proofs.YtckdinepbgilfaaW.PrintLast

theorem FnExactNextSeed : laws_FnExactNextSeed.Pure := by
  intro a0 w0
  by_cases h0 : a0 ≥ 0
  · by_cases h1 : a0 ≤ 999999
    · simp [laws_FnExactNextSeed.f, spec_NextSeed.f, impl_NextSeed.f, spec_l13Seed.f, impl_seedOk.f, spec_l00In.f, impl_within.f, spec_l13Next.f, impl_nextSeed.f, h0, h1]
    · simp [laws_FnExactNextSeed.f, spec_NextSeed.f, impl_NextSeed.f, spec_l13Seed.f, impl_seedOk.f, spec_l00In.f, impl_within.f, spec_l13Next.f, impl_nextSeed.f, h0, h1]
  · simp [laws_FnExactNextSeed.f, spec_NextSeed.f, impl_NextSeed.f, spec_l13Seed.f, impl_seedOk.f, spec_l00In.f, impl_within.f, spec_l13Next.f, impl_nextSeed.f, h0]

end Go.Proofs.Ytckdinepbgilfaa.Pure
