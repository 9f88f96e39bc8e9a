/- The functions whose contracts are not printed. -/
import Derived.Test.YtocggojbafediaaDoorExtNum
import Derived.Test.YtocggojbafediaaDoorExtClone
import Derived.Test.YtocggojbafediaaDoorExtGrow
import Derived.Test.YtocggojbafediaaDoorExtPivot2
