/- Joined texts: TrWc. -/
import Derived.Test.YthilhhegchmjeaaGreatWt
/- The look itself: the cosines. -/
set_option linter.unusedVariables false
namespace Go.Proofs.YthilhhegchmjeaaGreat.TT
theorem swC0 : sweep 0 polC 0 100 = true := by decide +kernel
theorem swC1 : sweep 0 polC 100 100 = true := by decide +kernel
theorem swC2 : sweep 0 polC 200 100 = true := by decide +kernel
theorem swC3 : sweep 0 polC 300 100 = true := by decide +kernel
theorem swC4 : sweep 0 polC 400 100 = true := by decide +kernel
theorem swC5 : sweep 0 polC 500 100 = true := by decide +kernel
theorem swC6 : sweep 0 polC 600 100 = true := by decide +kernel
theorem swC7 : sweep 0 polC 700 100 = true := by decide +kernel
theorem swC8 : sweep 0 polC 800 100 = true := by decide +kernel
theorem swC9 : sweep 0 polC 900 100 = true := by decide +kernel
theorem swC10 : sweep 0 polC 1000 100 = true := by decide +kernel
theorem swC11 : sweep 0 polC 1100 100 = true := by decide +kernel
theorem swC12 : sweep 0 polC 1200 100 = true := by decide +kernel
theorem swC13 : sweep 0 polC 1300 100 = true := by decide +kernel
theorem swC14 : sweep 0 polC 1400 100 = true := by decide +kernel
theorem swC15 : sweep 0 polC 1500 100 = true := by decide +kernel
theorem swC16 : sweep 0 polC 1600 100 = true := by decide +kernel
theorem swC17 : sweep 0 polC 1700 100 = true := by decide +kernel
theorem swC18 : sweep 0 polC 1800 100 = true := by decide +kernel
theorem swC19 : sweep 0 polC 1900 100 = true := by decide +kernel
theorem swC20 : sweep 0 polC 2000 100 = true := by decide +kernel
theorem swC21 : sweep 0 polC 2100 100 = true := by decide +kernel
theorem swC22 : sweep 0 polC 2200 100 = true := by decide +kernel
theorem swC23 : sweep 0 polC 2300 100 = true := by decide +kernel
theorem swC24 : sweep 0 polC 2400 100 = true := by decide +kernel
theorem swC25 : sweep 0 polC 2500 100 = true := by decide +kernel
theorem swC26 : sweep 0 polC 2600 100 = true := by decide +kernel
theorem swC27 : sweep 0 polC 2700 1 = true := by decide +kernel
end Go.Proofs.YthilhhegchmjeaaGreat.TT
