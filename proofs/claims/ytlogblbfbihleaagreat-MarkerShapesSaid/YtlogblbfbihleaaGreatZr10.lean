/- ratio. -/
import Derived.Test.YtlogblbfbihleaaGreatZr09
