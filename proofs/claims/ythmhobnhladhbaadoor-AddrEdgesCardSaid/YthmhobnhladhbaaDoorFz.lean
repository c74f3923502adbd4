/- All typed functions of this seat. -/
import Derived.Test.YthmhobnhladhbaaDoorF1
