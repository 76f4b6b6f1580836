/- All walks. No condition. -/
import Derived.Test.YtppfilhlblnmcaaLkFnExactSignTexta
