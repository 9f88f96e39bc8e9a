/- The functions whose contracts are this session's own texts. -/
import Derived.Test.YtocggojbafediaaDoorExtNum
import Derived.Test.YtocggojbafediaaDoorExtChk
