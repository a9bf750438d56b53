/- What the program printed for this seat, under one name. -/
import Derived.Test.YtnhejenjpomhdaaDoorTsPTableLoadsx0
import Derived.Test.YtnhejenjpomhdaaDoorTsPTableLoadsx1
import Derived.Test.YtnhejenjpomhdaaDoorTsPTableLoadsx2
import Derived.Test.YtnhejenjpomhdaaDoorTsPTableLoadsx3
import Derived.Test.YtnhejenjpomhdaaDoorTsPTableLoadsx4
import Derived.Test.YtnhejenjpomhdaaDoorTsPTableLoadsx5
import Derived.Test.YtnhejenjpomhdaaDoorTsNew
