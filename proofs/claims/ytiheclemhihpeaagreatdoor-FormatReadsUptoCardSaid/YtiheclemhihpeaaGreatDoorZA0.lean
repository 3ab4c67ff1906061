import Derived.Test.YtiheclemhihpeaaGreatDoorZAl
import Derived.BigQuiet
set_option linter.all false
theorem ah {p:Prop}(h:p:=by omega):p:=h
theorem aj {p:Prop}(h:p:=by decide):p:=h
theorem au {p:Prop}(h:p:=by kernel_rfl):p:=h
theorem ak {p:Prop}(h:p:=by simp):p:=h
