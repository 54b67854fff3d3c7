/- ConfigBack's walk beside its argument's opening. -/
import Derived.Test.YtehbabkgaecoaaaCB
import Derived.Test.YtehbabkgaecoaaaOpenM
