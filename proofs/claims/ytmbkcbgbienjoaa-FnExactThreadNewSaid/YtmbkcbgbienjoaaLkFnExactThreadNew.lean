/- All walks. No condition. -/
import Derived.Test.YtmbkcbgbienjoaaLkFnExactThreadNewa
import Derived.Test.YtmbkcbgbienjoaaLkFnExactThreadNewb
import Derived.Test.YtmbkcbgbienjoaaLkFnExactThreadNewc
import Derived.Test.YtmbkcbgbienjoaaLkFnExactThreadNewd
import Derived.Test.YtmbkcbgbienjoaaLkFnExactThreadNewe
