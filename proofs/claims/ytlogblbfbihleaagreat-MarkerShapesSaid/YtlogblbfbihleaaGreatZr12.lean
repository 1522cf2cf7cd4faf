/- ratio. -/
import Derived.Test.YtlogblbfbihleaaGreatZr11
