/-
  Part of a proof: NT8.
-/
import Derived.Test.YtmgnanajcnnlgaaDoorNT7
set_option linter.unusedVariables false
set_option linter.unusedSimpArgs false
namespace Go.Eng
set_option maxRecDepth 100000
theorem pri_531581 : Pri 531581 := trial 729 (by decide) (by kernel_rfl) (by decide)
theorem pri_122448 : Pri 1224481 := trial 1106 (by decide) (by kernel_rfl) (by decide)
theorem pri_125755 : Pri 1257559732178653 := pock (by decide) [(1224481, 2), (531581, 2)] (by decide) (all2 pri_122448 pri_531581) (by decide) (by kernel_rfl) (by decide)
theorem pri_443415 : Pri 4434155615661930479 := pock (by decide) [(1257559732178653, 2)] (by decide) (all1 pri_125755) (by decide) (by kernel_rfl) (by decide)
theorem pri_172054 : Pri 172054593956031949258510691 := pock (by decide) [(4434155615661930479, 2)] (by decide) (all1 pri_443415) (by decide) (by kernel_rfl) (by decide)
theorem pri_197573 : Pri 19757330305831588566944191468367130476339 := pock (by decide) [(172054593956031949258510691, 2)] (by decide) (all1 pri_172054) (by decide) (by kernel_rfl) (by decide)
theorem pri_276602 : Pri 276602624281642239937218680557139826668747 := pock (by decide) [(19757330305831588566944191468367130476339, 2)] (by decide) (all1 pri_197573) (by decide) (by kernel_rfl) (by decide)
theorem pri_723700 : Pri 7237005577332262213973186563042994240857116359379907606001950938285454250989 := pock (by decide) [(276602624281642239937218680557139826668747, 2)] (by decide) (all1 pri_276602) (by decide) (by kernel_rfl) (by decide)
end Go.Eng
