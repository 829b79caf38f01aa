import PyProof.Rows.All
import Wide.All
import OpenK.AllK
import Wide.FinOn
import PySem.Challenge.RW_cardwright_k00_errors_and_limits
open PySem PySem.W PySem.W.X PyProof.Rows
set_option Elab.async false
set_option maxRecDepth 100000 in
set_option maxHeartbeats 0 in
theorem PySem.Challenge.cw_cardwright_k00_errors_and_limits_holds : PySem.Challenge.rw_cardwright_k00_errors_and_limits.Holds := by
  open_z
#print axioms PySem.Challenge.cw_cardwright_k00_errors_and_limits_holds
