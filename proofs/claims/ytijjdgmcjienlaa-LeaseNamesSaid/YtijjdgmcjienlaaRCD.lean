/- (nothing yet) -/
import Derived.Test.YtijjdgmcjienlaaPL
