/- Of ServerHides: lemmas. -/
import Derived.Test.YtlhdbnmgiaoeeaaGreatUBn
import Derived.Test.YtlhdbnmgiaoeeaaGreatUAl
set_option linter.all false

