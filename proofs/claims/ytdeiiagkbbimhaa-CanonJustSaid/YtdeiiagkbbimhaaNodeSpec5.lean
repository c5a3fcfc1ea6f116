/- Part of the proof that is named in YtdeiiagkbbimhaaNRowCanJust: a library for walks, or a function's walk. -/
import Derived.Test.YtdeiiagkbbimhaaNodeSpec4
import Derived.Test.YtdeiiagkbbimhaaGw14
import Derived.Test.YtdeiiagkbbimhaaGw16
