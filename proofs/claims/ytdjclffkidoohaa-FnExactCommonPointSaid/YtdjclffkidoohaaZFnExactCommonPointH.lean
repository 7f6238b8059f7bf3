/- Function values, rows of rows; no condition. -/
import Derived.Test.YtdjclffkidoohaaVFnExactCommonPoint

