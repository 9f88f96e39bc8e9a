/- The printed functions that need no text of this session's own. -/
import Derived.Test.YtocggojbafediaaDoorRef2
import Derived.Test.YtocggojbafediaaDoorRef3
