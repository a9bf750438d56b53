/- What the program printed for this seat, under one name. -/
import Derived.Test.YtnhejenjpomhdaaDoorTbPTableLoadsx0
import Derived.Test.YtnhejenjpomhdaaDoorTbPTableLoadsx1
import Derived.Test.YtnhejenjpomhdaaDoorTbPTableLoadsx2
import Derived.Test.YtnhejenjpomhdaaDoorTbPTableLoadsx3
import Derived.Test.YtnhejenjpomhdaaDoorTbPTableLoadsx4
import Derived.Test.YtnhejenjpomhdaaDoorTbPTableLoadsx5
import Derived.Test.YtnhejenjpomhdaaDoorTbNew
