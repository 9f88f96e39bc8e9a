/- All printed functions. -/
import Derived.Test.YtocggojbafediaaDoorRef5
import Derived.Test.YtocggojbafediaaDoorRef6
import Derived.Test.YtocggojbafediaaDoorRef7
import Derived.Test.YtocggojbafediaaDoorRefA
