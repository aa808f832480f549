/- The law RootSquares over numbers and lists alone: it stands in PureRoot. -/
import Derived.Test.YtglfaamglpphmaaPureRoot
