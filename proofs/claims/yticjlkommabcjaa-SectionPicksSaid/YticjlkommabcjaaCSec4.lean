/- section.Count, Whole. -/
import Derived.Test.YticjlkommabcjaaCWh
import Derived.Test.YticjlkommabcjaaCCnt
