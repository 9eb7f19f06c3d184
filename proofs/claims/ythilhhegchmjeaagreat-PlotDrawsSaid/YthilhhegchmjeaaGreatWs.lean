/- Joined texts: TrWs. -/
import Derived.Test.YthilhhegchmjeaaGreatWt
/- The look itself: the sines. -/
set_option linter.unusedVariables false
namespace Go.Proofs.YthilhhegchmjeaaGreat.TT
theorem swS0 : sweep 1 polS 0 100 = true := by decide +kernel
theorem swS1 : sweep 1 polS 100 100 = true := by decide +kernel
theorem swS2 : sweep 1 polS 200 100 = true := by decide +kernel
theorem swS3 : sweep 1 polS 300 100 = true := by decide +kernel
theorem swS4 : sweep 1 polS 400 100 = true := by decide +kernel
theorem swS5 : sweep 1 polS 500 100 = true := by decide +kernel
theorem swS6 : sweep 1 polS 600 100 = true := by decide +kernel
theorem swS7 : sweep 1 polS 700 100 = true := by decide +kernel
theorem swS8 : sweep 1 polS 800 100 = true := by decide +kernel
theorem swS9 : sweep 1 polS 900 100 = true := by decide +kernel
theorem swS10 : sweep 1 polS 1000 100 = true := by decide +kernel
theorem swS11 : sweep 1 polS 1100 100 = true := by decide +kernel
theorem swS12 : sweep 1 polS 1200 100 = true := by decide +kernel
theorem swS13 : sweep 1 polS 1300 100 = true := by decide +kernel
theorem swS14 : sweep 1 polS 1400 100 = true := by decide +kernel
theorem swS15 : sweep 1 polS 1500 100 = true := by decide +kernel
theorem swS16 : sweep 1 polS 1600 100 = true := by decide +kernel
theorem swS17 : sweep 1 polS 1700 100 = true := by decide +kernel
theorem swS18 : sweep 1 polS 1800 100 = true := by decide +kernel
theorem swS19 : sweep 1 polS 1900 100 = true := by decide +kernel
theorem swS20 : sweep 1 polS 2000 100 = true := by decide +kernel
theorem swS21 : sweep 1 polS 2100 100 = true := by decide +kernel
theorem swS22 : sweep 1 polS 2200 100 = true := by decide +kernel
theorem swS23 : sweep 1 polS 2300 100 = true := by decide +kernel
theorem swS24 : sweep 1 polS 2400 100 = true := by decide +kernel
theorem swS25 : sweep 1 polS 2500 100 = true := by decide +kernel
theorem swS26 : sweep 1 polS 2600 100 = true := by decide +kernel
theorem swS27 : sweep 1 polS 2700 1 = true := by decide +kernel
end Go.Proofs.YthilhhegchmjeaaGreat.TT
