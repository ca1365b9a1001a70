/- The rounds of the examples. -/
import Derived.Test.YtgajemhdpjomnaaGreatAlWr5
import Derived.Test.YtgajemhdpjomnaaGreatAlWr6
import Derived.Test.YtgajemhdpjomnaaGreatAlWr7
import Derived.Test.YtgajemhdpjomnaaGreatAlWr8
import Derived.Test.YtgajemhdpjomnaaGreatAlWr9
import Derived.Test.YtgajemhdpjomnaaGreatAlWr10
