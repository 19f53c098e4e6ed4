-- PRINTED BY print.sh 35421559b90ae4d0a3588c463048766b98c2df88dd9212a6774a882060cdf62d: not written by this session
import Derived.Test.YtpokjdkckdajeaaPListDaysx0
namespace Go.Proofs.Ytpokjdkckdajeaa.PListDays
open Go.RowKit Go.Proofs.YtpokjdkckdajeaaW.PrintWords Go.Proofs.YtpokjdkckdajeaaW.PrintLast Go.Proofs.YtpokjdkckdajeaaW.PrintMore
attribute [local go_sem] max2_int min2_int max_two min_two max_three min_three max_four min_four   -- for this text's walks alone
set_option linter.unusedVariables false
set_option linter.unusedSimpArgs false

/-! ### list_date: function 50 -/
def list_date.f (a0 : Int) : Option (Int × Int × Int) := if (wrap64 (a0 + 719468)) < 0 then (if (wrap64 (Int.tdiv (wrap64 ((wrap64 (5 * (wrap64 ((wrap64 ((wrap64 (a0 + 719468)) - (wrap64 (146097 * (wrap64 (Int.tdiv (wrap64 ((wrap64 (a0 + 719468)) - 146096)) 146097)))))) - (wrap64 ((wrap64 ((wrap64 (365 * (wrap64 (Int.tdiv (wrap64 ((wrap64 ((wrap64 ((wrap64 ((wrap64 (a0 + 719468)) - (wrap64 (146097 * (wrap64 (Int.tdiv (wrap64 ((wrap64 (a0 + 719468)) - 146096)) 146097)))))) - (wrap64 (Int.tdiv (wrap64 ((wrap64 (a0 + 719468)) - (wrap64 (146097 * (wrap64 (Int.tdiv (wrap64 ((wrap64 (a0 + 719468)) - 146096)) 146097)))))) 1460)))) + (wrap64 (Int.tdiv (wrap64 ((wrap64 (a0 + 719468)) - (wrap64 (146097 * (wrap64 (Int.tdiv (wrap64 ((wrap64 (a0 + 719468)) - 146096)) 146097)))))) 36524)))) - (wrap64 (Int.tdiv (wrap64 ((wrap64 (a0 + 719468)) - (wrap64 (146097 * (wrap64 (Int.tdiv (wrap64 ((wrap64 (a0 + 719468)) - 146096)) 146097)))))) 146096)))) 365)))) + (wrap64 (Int.tdiv (wrap64 (Int.tdiv (wrap64 ((wrap64 ((wrap64 ((wrap64 ((wrap64 (a0 + 719468)) - (wrap64 (146097 * (wrap64 (Int.tdiv (wrap64 ((wrap64 (a0 + 719468)) - 146096)) 146097)))))) - (wrap64 (Int.tdiv (wrap64 ((wrap64 (a0 + 719468)) - (wrap64 (146097 * (wrap64 (Int.tdiv (wrap64 ((wrap64 (a0 + 719468)) - 146096)) 146097)))))) 1460)))) + (wrap64 (Int.tdiv (wrap64 ((wrap64 (a0 + 719468)) - (wrap64 (146097 * (wrap64 (Int.tdiv (wrap64 ((wrap64 (a0 + 719468)) - 146096)) 146097)))))) 36524)))) - (wrap64 (Int.tdiv (wrap64 ((wrap64 (a0 + 719468)) - (wrap64 (146097 * (wrap64 (Int.tdiv (wrap64 ((wrap64 (a0 + 719468)) - 146096)) 146097)))))) 146096)))) 365)) 4)))) - (wrap64 (Int.tdiv (wrap64 (Int.tdiv (wrap64 ((wrap64 ((wrap64 ((wrap64 ((wrap64 (a0 + 719468)) - (wrap64 (146097 * (wrap64 (Int.tdiv (wrap64 ((wrap64 (a0 + 719468)) - 146096)) 146097)))))) - (wrap64 (Int.tdiv (wrap64 ((wrap64 (a0 + 719468)) - (wrap64 (146097 * (wrap64 (Int.tdiv (wrap64 ((wrap64 (a0 + 719468)) - 146096)) 146097)))))) 1460)))) + (wrap64 (Int.tdiv (wrap64 ((wrap64 (a0 + 719468)) - (wrap64 (146097 * (wrap64 (Int.tdiv (wrap64 ((wrap64 (a0 + 719468)) - 146096)) 146097)))))) 36524)))) - (wrap64 (Int.tdiv (wrap64 ((wrap64 (a0 + 719468)) - (wrap64 (146097 * (wrap64 (Int.tdiv (wrap64 ((wrap64 (a0 + 719468)) - 146096)) 146097)))))) 146096)))) 365)) 100)))))))) + 2)) 153)) < 10 then (some (wrap64 ((wrap64 (Int.tdiv (wrap64 ((wrap64 ((wrap64 ((wrap64 ((wrap64 (a0 + 719468)) - (wrap64 (146097 * (wrap64 (Int.tdiv (wrap64 ((wrap64 (a0 + 719468)) - 146096)) 146097)))))) - (wrap64 (Int.tdiv (wrap64 ((wrap64 (a0 + 719468)) - (wrap64 (146097 * (wrap64 (Int.tdiv (wrap64 ((wrap64 (a0 + 719468)) - 146096)) 146097)))))) 1460)))) + (wrap64 (Int.tdiv (wrap64 ((wrap64 (a0 + 719468)) - (wrap64 (146097 * (wrap64 (Int.tdiv (wrap64 ((wrap64 (a0 + 719468)) - 146096)) 146097)))))) 36524)))) - (wrap64 (Int.tdiv (wrap64 ((wrap64 (a0 + 719468)) - (wrap64 (146097 * (wrap64 (Int.tdiv (wrap64 ((wrap64 (a0 + 719468)) - 146096)) 146097)))))) 146096)))) 365)) + (wrap64 (400 * (wrap64 (Int.tdiv (wrap64 ((wrap64 (a0 + 719468)) - 146096)) 146097))))), wrap64 ((wrap64 (Int.tdiv (wrap64 ((wrap64 (5 * (wrap64 ((wrap64 ((wrap64 (a0 + 719468)) - (wrap64 (146097 * (wrap64 (Int.tdiv (wrap64 ((wrap64 (a0 + 719468)) - 146096)) 146097)))))) - (wrap64 ((wrap64 ((wrap64 (365 * (wrap64 (Int.tdiv (wrap64 ((wrap64 ((wrap64 ((wrap64 ((wrap64 (a0 + 719468)) - (wrap64 (146097 * (wrap64 (Int.tdiv (wrap64 ((wrap64 (a0 + 719468)) - 146096)) 146097)))))) - (wrap64 (Int.tdiv (wrap64 ((wrap64 (a0 + 719468)) - (wrap64 (146097 * (wrap64 (Int.tdiv (wrap64 ((wrap64 (a0 + 719468)) - 146096)) 146097)))))) 1460)))) + (wrap64 (Int.tdiv (wrap64 ((wrap64 (a0 + 719468)) - (wrap64 (146097 * (wrap64 (Int.tdiv (wrap64 ((wrap64 (a0 + 719468)) - 146096)) 146097)))))) 36524)))) - (wrap64 (Int.tdiv (wrap64 ((wrap64 (a0 + 719468)) - (wrap64 (146097 * (wrap64 (Int.tdiv (wrap64 ((wrap64 (a0 + 719468)) - 146096)) 146097)))))) 146096)))) 365)))) + (wrap64 (Int.tdiv (wrap64 (Int.tdiv (wrap64 ((wrap64 ((wrap64 ((wrap64 ((wrap64 (a0 + 719468)) - (wrap64 (146097 * (wrap64 (Int.tdiv (wrap64 ((wrap64 (a0 + 719468)) - 146096)) 146097)))))) - (wrap64 (Int.tdiv (wrap64 ((wrap64 (a0 + 719468)) - (wrap64 (146097 * (wrap64 (Int.tdiv (wrap64 ((wrap64 (a0 + 719468)) - 146096)) 146097)))))) 1460)))) + (wrap64 (Int.tdiv (wrap64 ((wrap64 (a0 + 719468)) - (wrap64 (146097 * (wrap64 (Int.tdiv (wrap64 ((wrap64 (a0 + 719468)) - 146096)) 146097)))))) 36524)))) - (wrap64 (Int.tdiv (wrap64 ((wrap64 (a0 + 719468)) - (wrap64 (146097 * (wrap64 (Int.tdiv (wrap64 ((wrap64 (a0 + 719468)) - 146096)) 146097)))))) 146096)))) 365)) 4)))) - (wrap64 (Int.tdiv (wrap64 (Int.tdiv (wrap64 ((wrap64 ((wrap64 ((wrap64 ((wrap64 (a0 + 719468)) - (wrap64 (146097 * (wrap64 (Int.tdiv (wrap64 ((wrap64 (a0 + 719468)) - 146096)) 146097)))))) - (wrap64 (Int.tdiv (wrap64 ((wrap64 (a0 + 719468)) - (wrap64 (146097 * (wrap64 (Int.tdiv (wrap64 ((wrap64 (a0 + 719468)) - 146096)) 146097)))))) 1460)))) + (wrap64 (Int.tdiv (wrap64 ((wrap64 (a0 + 719468)) - (wrap64 (146097 * (wrap64 (Int.tdiv (wrap64 ((wrap64 (a0 + 719468)) - 146096)) 146097)))))) 36524)))) - (wrap64 (Int.tdiv (wrap64 ((wrap64 (a0 + 719468)) - (wrap64 (146097 * (wrap64 (Int.tdiv (wrap64 ((wrap64 (a0 + 719468)) - 146096)) 146097)))))) 146096)))) 365)) 100)))))))) + 2)) 153)) + 3), wrap64 ((wrap64 ((wrap64 ((wrap64 ((wrap64 (a0 + 719468)) - (wrap64 (146097 * (wrap64 (Int.tdiv (wrap64 ((wrap64 (a0 + 719468)) - 146096)) 146097)))))) - (wrap64 ((wrap64 ((wrap64 (365 * (wrap64 (Int.tdiv (wrap64 ((wrap64 ((wrap64 ((wrap64 ((wrap64 (a0 + 719468)) - (wrap64 (146097 * (wrap64 (Int.tdiv (wrap64 ((wrap64 (a0 + 719468)) - 146096)) 146097)))))) - (wrap64 (Int.tdiv (wrap64 ((wrap64 (a0 + 719468)) - (wrap64 (146097 * (wrap64 (Int.tdiv (wrap64 ((wrap64 (a0 + 719468)) - 146096)) 146097)))))) 1460)))) + (wrap64 (Int.tdiv (wrap64 ((wrap64 (a0 + 719468)) - (wrap64 (146097 * (wrap64 (Int.tdiv (wrap64 ((wrap64 (a0 + 719468)) - 146096)) 146097)))))) 36524)))) - (wrap64 (Int.tdiv (wrap64 ((wrap64 (a0 + 719468)) - (wrap64 (146097 * (wrap64 (Int.tdiv (wrap64 ((wrap64 (a0 + 719468)) - 146096)) 146097)))))) 146096)))) 365)))) + (wrap64 (Int.tdiv (wrap64 (Int.tdiv (wrap64 ((wrap64 ((wrap64 ((wrap64 ((wrap64 (a0 + 719468)) - (wrap64 (146097 * (wrap64 (Int.tdiv (wrap64 ((wrap64 (a0 + 719468)) - 146096)) 146097)))))) - (wrap64 (Int.tdiv (wrap64 ((wrap64 (a0 + 719468)) - (wrap64 (146097 * (wrap64 (Int.tdiv (wrap64 ((wrap64 (a0 + 719468)) - 146096)) 146097)))))) 1460)))) + (wrap64 (Int.tdiv (wrap64 ((wrap64 (a0 + 719468)) - (wrap64 (146097 * (wrap64 (Int.tdiv (wrap64 ((wrap64 (a0 + 719468)) - 146096)) 146097)))))) 36524)))) - (wrap64 (Int.tdiv (wrap64 ((wrap64 (a0 + 719468)) - (wrap64 (146097 * (wrap64 (Int.tdiv (wrap64 ((wrap64 (a0 + 719468)) - 146096)) 146097)))))) 146096)))) 365)) 4)))) - (wrap64 (Int.tdiv (wrap64 (Int.tdiv (wrap64 ((wrap64 ((wrap64 ((wrap64 ((wrap64 (a0 + 719468)) - (wrap64 (146097 * (wrap64 (Int.tdiv (wrap64 ((wrap64 (a0 + 719468)) - 146096)) 146097)))))) - (wrap64 (Int.tdiv (wrap64 ((wrap64 (a0 + 719468)) - (wrap64 (146097 * (wrap64 (Int.tdiv (wrap64 ((wrap64 (a0 + 719468)) - 146096)) 146097)))))) 1460)))) + (wrap64 (Int.tdiv (wrap64 ((wrap64 (a0 + 719468)) - (wrap64 (146097 * (wrap64 (Int.tdiv (wrap64 ((wrap64 (a0 + 719468)) - 146096)) 146097)))))) 36524)))) - (wrap64 (Int.tdiv (wrap64 ((wrap64 (a0 + 719468)) - (wrap64 (146097 * (wrap64 (Int.tdiv (wrap64 ((wrap64 (a0 + 719468)) - 146096)) 146097)))))) 146096)))) 365)) 100)))))) - (wrap64 (Int.tdiv (wrap64 ((wrap64 (153 * (wrap64 (Int.tdiv (wrap64 ((wrap64 (5 * (wrap64 ((wrap64 ((wrap64 (a0 + 719468)) - (wrap64 (146097 * (wrap64 (Int.tdiv (wrap64 ((wrap64 (a0 + 719468)) - 146096)) 146097)))))) - (wrap64 ((wrap64 ((wrap64 (365 * (wrap64 (Int.tdiv (wrap64 ((wrap64 ((wrap64 ((wrap64 ((wrap64 (a0 + 719468)) - (wrap64 (146097 * (wrap64 (Int.tdiv (wrap64 ((wrap64 (a0 + 719468)) - 146096)) 146097)))))) - (wrap64 (Int.tdiv (wrap64 ((wrap64 (a0 + 719468)) - (wrap64 (146097 * (wrap64 (Int.tdiv (wrap64 ((wrap64 (a0 + 719468)) - 146096)) 146097)))))) 1460)))) + (wrap64 (Int.tdiv (wrap64 ((wrap64 (a0 + 719468)) - (wrap64 (146097 * (wrap64 (Int.tdiv (wrap64 ((wrap64 (a0 + 719468)) - 146096)) 146097)))))) 36524)))) - (wrap64 (Int.tdiv (wrap64 ((wrap64 (a0 + 719468)) - (wrap64 (146097 * (wrap64 (Int.tdiv (wrap64 ((wrap64 (a0 + 719468)) - 146096)) 146097)))))) 146096)))) 365)))) + (wrap64 (Int.tdiv (wrap64 (Int.tdiv (wrap64 ((wrap64 ((wrap64 ((wrap64 ((wrap64 (a0 + 719468)) - (wrap64 (146097 * (wrap64 (Int.tdiv (wrap64 ((wrap64 (a0 + 719468)) - 146096)) 146097)))))) - (wrap64 (Int.tdiv (wrap64 ((wrap64 (a0 + 719468)) - (wrap64 (146097 * (wrap64 (Int.tdiv (wrap64 ((wrap64 (a0 + 719468)) - 146096)) 146097)))))) 1460)))) + (wrap64 (Int.tdiv (wrap64 ((wrap64 (a0 + 719468)) - (wrap64 (146097 * (wrap64 (Int.tdiv (wrap64 ((wrap64 (a0 + 719468)) - 146096)) 146097)))))) 36524)))) - (wrap64 (Int.tdiv (wrap64 ((wrap64 (a0 + 719468)) - (wrap64 (146097 * (wrap64 (Int.tdiv (wrap64 ((wrap64 (a0 + 719468)) - 146096)) 146097)))))) 146096)))) 365)) 4)))) - (wrap64 (Int.tdiv (wrap64 (Int.tdiv (wrap64 ((wrap64 ((wrap64 ((wrap64 ((wrap64 (a0 + 719468)) - (wrap64 (146097 * (wrap64 (Int.tdiv (wrap64 ((wrap64 (a0 + 719468)) - 146096)) 146097)))))) - (wrap64 (Int.tdiv (wrap64 ((wrap64 (a0 + 719468)) - (wrap64 (146097 * (wrap64 (Int.tdiv (wrap64 ((wrap64 (a0 + 719468)) - 146096)) 146097)))))) 1460)))) + (wrap64 (Int.tdiv (wrap64 ((wrap64 (a0 + 719468)) - (wrap64 (146097 * (wrap64 (Int.tdiv (wrap64 ((wrap64 (a0 + 719468)) - 146096)) 146097)))))) 36524)))) - (wrap64 (Int.tdiv (wrap64 ((wrap64 (a0 + 719468)) - (wrap64 (146097 * (wrap64 (Int.tdiv (wrap64 ((wrap64 (a0 + 719468)) - 146096)) 146097)))))) 146096)))) 365)) 100)))))))) + 2)) 153)))) + 2)) 5)))) + 1))) else (some (wrap64 ((wrap64 ((wrap64 (Int.tdiv (wrap64 ((wrap64 ((wrap64 ((wrap64 ((wrap64 (a0 + 719468)) - (wrap64 (146097 * (wrap64 (Int.tdiv (wrap64 ((wrap64 (a0 + 719468)) - 146096)) 146097)))))) - (wrap64 (Int.tdiv (wrap64 ((wrap64 (a0 + 719468)) - (wrap64 (146097 * (wrap64 (Int.tdiv (wrap64 ((wrap64 (a0 + 719468)) - 146096)) 146097)))))) 1460)))) + (wrap64 (Int.tdiv (wrap64 ((wrap64 (a0 + 719468)) - (wrap64 (146097 * (wrap64 (Int.tdiv (wrap64 ((wrap64 (a0 + 719468)) - 146096)) 146097)))))) 36524)))) - (wrap64 (Int.tdiv (wrap64 ((wrap64 (a0 + 719468)) - (wrap64 (146097 * (wrap64 (Int.tdiv (wrap64 ((wrap64 (a0 + 719468)) - 146096)) 146097)))))) 146096)))) 365)) + (wrap64 (400 * (wrap64 (Int.tdiv (wrap64 ((wrap64 (a0 + 719468)) - 146096)) 146097)))))) + 1), wrap64 ((wrap64 (Int.tdiv (wrap64 ((wrap64 (5 * (wrap64 ((wrap64 ((wrap64 (a0 + 719468)) - (wrap64 (146097 * (wrap64 (Int.tdiv (wrap64 ((wrap64 (a0 + 719468)) - 146096)) 146097)))))) - (wrap64 ((wrap64 ((wrap64 (365 * (wrap64 (Int.tdiv (wrap64 ((wrap64 ((wrap64 ((wrap64 ((wrap64 (a0 + 719468)) - (wrap64 (146097 * (wrap64 (Int.tdiv (wrap64 ((wrap64 (a0 + 719468)) - 146096)) 146097)))))) - (wrap64 (Int.tdiv (wrap64 ((wrap64 (a0 + 719468)) - (wrap64 (146097 * (wrap64 (Int.tdiv (wrap64 ((wrap64 (a0 + 719468)) - 146096)) 146097)))))) 1460)))) + (wrap64 (Int.tdiv (wrap64 ((wrap64 (a0 + 719468)) - (wrap64 (146097 * (wrap64 (Int.tdiv (wrap64 ((wrap64 (a0 + 719468)) - 146096)) 146097)))))) 36524)))) - (wrap64 (Int.tdiv (wrap64 ((wrap64 (a0 + 719468)) - (wrap64 (146097 * (wrap64 (Int.tdiv (wrap64 ((wrap64 (a0 + 719468)) - 146096)) 146097)))))) 146096)))) 365)))) + (wrap64 (Int.tdiv (wrap64 (Int.tdiv (wrap64 ((wrap64 ((wrap64 ((wrap64 ((wrap64 (a0 + 719468)) - (wrap64 (146097 * (wrap64 (Int.tdiv (wrap64 ((wrap64 (a0 + 719468)) - 146096)) 146097)))))) - (wrap64 (Int.tdiv (wrap64 ((wrap64 (a0 + 719468)) - (wrap64 (146097 * (wrap64 (Int.tdiv (wrap64 ((wrap64 (a0 + 719468)) - 146096)) 146097)))))) 1460)))) + (wrap64 (Int.tdiv (wrap64 ((wrap64 (a0 + 719468)) - (wrap64 (146097 * (wrap64 (Int.tdiv (wrap64 ((wrap64 (a0 + 719468)) - 146096)) 146097)))))) 36524)))) - (wrap64 (Int.tdiv (wrap64 ((wrap64 (a0 + 719468)) - (wrap64 (146097 * (wrap64 (Int.tdiv (wrap64 ((wrap64 (a0 + 719468)) - 146096)) 146097)))))) 146096)))) 365)) 4)))) - (wrap64 (Int.tdiv (wrap64 (Int.tdiv (wrap64 ((wrap64 ((wrap64 ((wrap64 ((wrap64 (a0 + 719468)) - (wrap64 (146097 * (wrap64 (Int.tdiv (wrap64 ((wrap64 (a0 + 719468)) - 146096)) 146097)))))) - (wrap64 (Int.tdiv (wrap64 ((wrap64 (a0 + 719468)) - (wrap64 (146097 * (wrap64 (Int.tdiv (wrap64 ((wrap64 (a0 + 719468)) - 146096)) 146097)))))) 1460)))) + (wrap64 (Int.tdiv (wrap64 ((wrap64 (a0 + 719468)) - (wrap64 (146097 * (wrap64 (Int.tdiv (wrap64 ((wrap64 (a0 + 719468)) - 146096)) 146097)))))) 36524)))) - (wrap64 (Int.tdiv (wrap64 ((wrap64 (a0 + 719468)) - (wrap64 (146097 * (wrap64 (Int.tdiv (wrap64 ((wrap64 (a0 + 719468)) - 146096)) 146097)))))) 146096)))) 365)) 100)))))))) + 2)) 153)) - 9), wrap64 ((wrap64 ((wrap64 ((wrap64 ((wrap64 (a0 + 719468)) - (wrap64 (146097 * (wrap64 (Int.tdiv (wrap64 ((wrap64 (a0 + 719468)) - 146096)) 146097)))))) - (wrap64 ((wrap64 ((wrap64 (365 * (wrap64 (Int.tdiv (wrap64 ((wrap64 ((wrap64 ((wrap64 ((wrap64 (a0 + 719468)) - (wrap64 (146097 * (wrap64 (Int.tdiv (wrap64 ((wrap64 (a0 + 719468)) - 146096)) 146097)))))) - (wrap64 (Int.tdiv (wrap64 ((wrap64 (a0 + 719468)) - (wrap64 (146097 * (wrap64 (Int.tdiv (wrap64 ((wrap64 (a0 + 719468)) - 146096)) 146097)))))) 1460)))) + (wrap64 (Int.tdiv (wrap64 ((wrap64 (a0 + 719468)) - (wrap64 (146097 * (wrap64 (Int.tdiv (wrap64 ((wrap64 (a0 + 719468)) - 146096)) 146097)))))) 36524)))) - (wrap64 (Int.tdiv (wrap64 ((wrap64 (a0 + 719468)) - (wrap64 (146097 * (wrap64 (Int.tdiv (wrap64 ((wrap64 (a0 + 719468)) - 146096)) 146097)))))) 146096)))) 365)))) + (wrap64 (Int.tdiv (wrap64 (Int.tdiv (wrap64 ((wrap64 ((wrap64 ((wrap64 ((wrap64 (a0 + 719468)) - (wrap64 (146097 * (wrap64 (Int.tdiv (wrap64 ((wrap64 (a0 + 719468)) - 146096)) 146097)))))) - (wrap64 (Int.tdiv (wrap64 ((wrap64 (a0 + 719468)) - (wrap64 (146097 * (wrap64 (Int.tdiv (wrap64 ((wrap64 (a0 + 719468)) - 146096)) 146097)))))) 1460)))) + (wrap64 (Int.tdiv (wrap64 ((wrap64 (a0 + 719468)) - (wrap64 (146097 * (wrap64 (Int.tdiv (wrap64 ((wrap64 (a0 + 719468)) - 146096)) 146097)))))) 36524)))) - (wrap64 (Int.tdiv (wrap64 ((wrap64 (a0 + 719468)) - (wrap64 (146097 * (wrap64 (Int.tdiv (wrap64 ((wrap64 (a0 + 719468)) - 146096)) 146097)))))) 146096)))) 365)) 4)))) - (wrap64 (Int.tdiv (wrap64 (Int.tdiv (wrap64 ((wrap64 ((wrap64 ((wrap64 ((wrap64 (a0 + 719468)) - (wrap64 (146097 * (wrap64 (Int.tdiv (wrap64 ((wrap64 (a0 + 719468)) - 146096)) 146097)))))) - (wrap64 (Int.tdiv (wrap64 ((wrap64 (a0 + 719468)) - (wrap64 (146097 * (wrap64 (Int.tdiv (wrap64 ((wrap64 (a0 + 719468)) - 146096)) 146097)))))) 1460)))) + (wrap64 (Int.tdiv (wrap64 ((wrap64 (a0 + 719468)) - (wrap64 (146097 * (wrap64 (Int.tdiv (wrap64 ((wrap64 (a0 + 719468)) - 146096)) 146097)))))) 36524)))) - (wrap64 (Int.tdiv (wrap64 ((wrap64 (a0 + 719468)) - (wrap64 (146097 * (wrap64 (Int.tdiv (wrap64 ((wrap64 (a0 + 719468)) - 146096)) 146097)))))) 146096)))) 365)) 100)))))) - (wrap64 (Int.tdiv (wrap64 ((wrap64 (153 * (wrap64 (Int.tdiv (wrap64 ((wrap64 (5 * (wrap64 ((wrap64 ((wrap64 (a0 + 719468)) - (wrap64 (146097 * (wrap64 (Int.tdiv (wrap64 ((wrap64 (a0 + 719468)) - 146096)) 146097)))))) - (wrap64 ((wrap64 ((wrap64 (365 * (wrap64 (Int.tdiv (wrap64 ((wrap64 ((wrap64 ((wrap64 ((wrap64 (a0 + 719468)) - (wrap64 (146097 * (wrap64 (Int.tdiv (wrap64 ((wrap64 (a0 + 719468)) - 146096)) 146097)))))) - (wrap64 (Int.tdiv (wrap64 ((wrap64 (a0 + 719468)) - (wrap64 (146097 * (wrap64 (Int.tdiv (wrap64 ((wrap64 (a0 + 719468)) - 146096)) 146097)))))) 1460)))) + (wrap64 (Int.tdiv (wrap64 ((wrap64 (a0 + 719468)) - (wrap64 (146097 * (wrap64 (Int.tdiv (wrap64 ((wrap64 (a0 + 719468)) - 146096)) 146097)))))) 36524)))) - (wrap64 (Int.tdiv (wrap64 ((wrap64 (a0 + 719468)) - (wrap64 (146097 * (wrap64 (Int.tdiv (wrap64 ((wrap64 (a0 + 719468)) - 146096)) 146097)))))) 146096)))) 365)))) + (wrap64 (Int.tdiv (wrap64 (Int.tdiv (wrap64 ((wrap64 ((wrap64 ((wrap64 ((wrap64 (a0 + 719468)) - (wrap64 (146097 * (wrap64 (Int.tdiv (wrap64 ((wrap64 (a0 + 719468)) - 146096)) 146097)))))) - (wrap64 (Int.tdiv (wrap64 ((wrap64 (a0 + 719468)) - (wrap64 (146097 * (wrap64 (Int.tdiv (wrap64 ((wrap64 (a0 + 719468)) - 146096)) 146097)))))) 1460)))) + (wrap64 (Int.tdiv (wrap64 ((wrap64 (a0 + 719468)) - (wrap64 (146097 * (wrap64 (Int.tdiv (wrap64 ((wrap64 (a0 + 719468)) - 146096)) 146097)))))) 36524)))) - (wrap64 (Int.tdiv (wrap64 ((wrap64 (a0 + 719468)) - (wrap64 (146097 * (wrap64 (Int.tdiv (wrap64 ((wrap64 (a0 + 719468)) - 146096)) 146097)))))) 146096)))) 365)) 4)))) - (wrap64 (Int.tdiv (wrap64 (Int.tdiv (wrap64 ((wrap64 ((wrap64 ((wrap64 ((wrap64 (a0 + 719468)) - (wrap64 (146097 * (wrap64 (Int.tdiv (wrap64 ((wrap64 (a0 + 719468)) - 146096)) 146097)))))) - (wrap64 (Int.tdiv (wrap64 ((wrap64 (a0 + 719468)) - (wrap64 (146097 * (wrap64 (Int.tdiv (wrap64 ((wrap64 (a0 + 719468)) - 146096)) 146097)))))) 1460)))) + (wrap64 (Int.tdiv (wrap64 ((wrap64 (a0 + 719468)) - (wrap64 (146097 * (wrap64 (Int.tdiv (wrap64 ((wrap64 (a0 + 719468)) - 146096)) 146097)))))) 36524)))) - (wrap64 (Int.tdiv (wrap64 ((wrap64 (a0 + 719468)) - (wrap64 (146097 * (wrap64 (Int.tdiv (wrap64 ((wrap64 (a0 + 719468)) - 146096)) 146097)))))) 146096)))) 365)) 100)))))))) + 2)) 153)))) + 2)) 5)))) + 1)))) else (if (wrap64 (Int.tdiv (wrap64 ((wrap64 (5 * (wrap64 ((wrap64 ((wrap64 (a0 + 719468)) - (wrap64 (146097 * (wrap64 (Int.tdiv (wrap64 (a0 + 719468)) 146097)))))) - (wrap64 ((wrap64 ((wrap64 (365 * (wrap64 (Int.tdiv (wrap64 ((wrap64 ((wrap64 ((wrap64 ((wrap64 (a0 + 719468)) - (wrap64 (146097 * (wrap64 (Int.tdiv (wrap64 (a0 + 719468)) 146097)))))) - (wrap64 (Int.tdiv (wrap64 ((wrap64 (a0 + 719468)) - (wrap64 (146097 * (wrap64 (Int.tdiv (wrap64 (a0 + 719468)) 146097)))))) 1460)))) + (wrap64 (Int.tdiv (wrap64 ((wrap64 (a0 + 719468)) - (wrap64 (146097 * (wrap64 (Int.tdiv (wrap64 (a0 + 719468)) 146097)))))) 36524)))) - (wrap64 (Int.tdiv (wrap64 ((wrap64 (a0 + 719468)) - (wrap64 (146097 * (wrap64 (Int.tdiv (wrap64 (a0 + 719468)) 146097)))))) 146096)))) 365)))) + (wrap64 (Int.tdiv (wrap64 (Int.tdiv (wrap64 ((wrap64 ((wrap64 ((wrap64 ((wrap64 (a0 + 719468)) - (wrap64 (146097 * (wrap64 (Int.tdiv (wrap64 (a0 + 719468)) 146097)))))) - (wrap64 (Int.tdiv (wrap64 ((wrap64 (a0 + 719468)) - (wrap64 (146097 * (wrap64 (Int.tdiv (wrap64 (a0 + 719468)) 146097)))))) 1460)))) + (wrap64 (Int.tdiv (wrap64 ((wrap64 (a0 + 719468)) - (wrap64 (146097 * (wrap64 (Int.tdiv (wrap64 (a0 + 719468)) 146097)))))) 36524)))) - (wrap64 (Int.tdiv (wrap64 ((wrap64 (a0 + 719468)) - (wrap64 (146097 * (wrap64 (Int.tdiv (wrap64 (a0 + 719468)) 146097)))))) 146096)))) 365)) 4)))) - (wrap64 (Int.tdiv (wrap64 (Int.tdiv (wrap64 ((wrap64 ((wrap64 ((wrap64 ((wrap64 (a0 + 719468)) - (wrap64 (146097 * (wrap64 (Int.tdiv (wrap64 (a0 + 719468)) 146097)))))) - (wrap64 (Int.tdiv (wrap64 ((wrap64 (a0 + 719468)) - (wrap64 (146097 * (wrap64 (Int.tdiv (wrap64 (a0 + 719468)) 146097)))))) 1460)))) + (wrap64 (Int.tdiv (wrap64 ((wrap64 (a0 + 719468)) - (wrap64 (146097 * (wrap64 (Int.tdiv (wrap64 (a0 + 719468)) 146097)))))) 36524)))) - (wrap64 (Int.tdiv (wrap64 ((wrap64 (a0 + 719468)) - (wrap64 (146097 * (wrap64 (Int.tdiv (wrap64 (a0 + 719468)) 146097)))))) 146096)))) 365)) 100)))))))) + 2)) 153)) < 10 then (some (wrap64 ((wrap64 (Int.tdiv (wrap64 ((wrap64 ((wrap64 ((wrap64 ((wrap64 (a0 + 719468)) - (wrap64 (146097 * (wrap64 (Int.tdiv (wrap64 (a0 + 719468)) 146097)))))) - (wrap64 (Int.tdiv (wrap64 ((wrap64 (a0 + 719468)) - (wrap64 (146097 * (wrap64 (Int.tdiv (wrap64 (a0 + 719468)) 146097)))))) 1460)))) + (wrap64 (Int.tdiv (wrap64 ((wrap64 (a0 + 719468)) - (wrap64 (146097 * (wrap64 (Int.tdiv (wrap64 (a0 + 719468)) 146097)))))) 36524)))) - (wrap64 (Int.tdiv (wrap64 ((wrap64 (a0 + 719468)) - (wrap64 (146097 * (wrap64 (Int.tdiv (wrap64 (a0 + 719468)) 146097)))))) 146096)))) 365)) + (wrap64 (400 * (wrap64 (Int.tdiv (wrap64 (a0 + 719468)) 146097))))), wrap64 ((wrap64 (Int.tdiv (wrap64 ((wrap64 (5 * (wrap64 ((wrap64 ((wrap64 (a0 + 719468)) - (wrap64 (146097 * (wrap64 (Int.tdiv (wrap64 (a0 + 719468)) 146097)))))) - (wrap64 ((wrap64 ((wrap64 (365 * (wrap64 (Int.tdiv (wrap64 ((wrap64 ((wrap64 ((wrap64 ((wrap64 (a0 + 719468)) - (wrap64 (146097 * (wrap64 (Int.tdiv (wrap64 (a0 + 719468)) 146097)))))) - (wrap64 (Int.tdiv (wrap64 ((wrap64 (a0 + 719468)) - (wrap64 (146097 * (wrap64 (Int.tdiv (wrap64 (a0 + 719468)) 146097)))))) 1460)))) + (wrap64 (Int.tdiv (wrap64 ((wrap64 (a0 + 719468)) - (wrap64 (146097 * (wrap64 (Int.tdiv (wrap64 (a0 + 719468)) 146097)))))) 36524)))) - (wrap64 (Int.tdiv (wrap64 ((wrap64 (a0 + 719468)) - (wrap64 (146097 * (wrap64 (Int.tdiv (wrap64 (a0 + 719468)) 146097)))))) 146096)))) 365)))) + (wrap64 (Int.tdiv (wrap64 (Int.tdiv (wrap64 ((wrap64 ((wrap64 ((wrap64 ((wrap64 (a0 + 719468)) - (wrap64 (146097 * (wrap64 (Int.tdiv (wrap64 (a0 + 719468)) 146097)))))) - (wrap64 (Int.tdiv (wrap64 ((wrap64 (a0 + 719468)) - (wrap64 (146097 * (wrap64 (Int.tdiv (wrap64 (a0 + 719468)) 146097)))))) 1460)))) + (wrap64 (Int.tdiv (wrap64 ((wrap64 (a0 + 719468)) - (wrap64 (146097 * (wrap64 (Int.tdiv (wrap64 (a0 + 719468)) 146097)))))) 36524)))) - (wrap64 (Int.tdiv (wrap64 ((wrap64 (a0 + 719468)) - (wrap64 (146097 * (wrap64 (Int.tdiv (wrap64 (a0 + 719468)) 146097)))))) 146096)))) 365)) 4)))) - (wrap64 (Int.tdiv (wrap64 (Int.tdiv (wrap64 ((wrap64 ((wrap64 ((wrap64 ((wrap64 (a0 + 719468)) - (wrap64 (146097 * (wrap64 (Int.tdiv (wrap64 (a0 + 719468)) 146097)))))) - (wrap64 (Int.tdiv (wrap64 ((wrap64 (a0 + 719468)) - (wrap64 (146097 * (wrap64 (Int.tdiv (wrap64 (a0 + 719468)) 146097)))))) 1460)))) + (wrap64 (Int.tdiv (wrap64 ((wrap64 (a0 + 719468)) - (wrap64 (146097 * (wrap64 (Int.tdiv (wrap64 (a0 + 719468)) 146097)))))) 36524)))) - (wrap64 (Int.tdiv (wrap64 ((wrap64 (a0 + 719468)) - (wrap64 (146097 * (wrap64 (Int.tdiv (wrap64 (a0 + 719468)) 146097)))))) 146096)))) 365)) 100)))))))) + 2)) 153)) + 3), wrap64 ((wrap64 ((wrap64 ((wrap64 ((wrap64 (a0 + 719468)) - (wrap64 (146097 * (wrap64 (Int.tdiv (wrap64 (a0 + 719468)) 146097)))))) - (wrap64 ((wrap64 ((wrap64 (365 * (wrap64 (Int.tdiv (wrap64 ((wrap64 ((wrap64 ((wrap64 ((wrap64 (a0 + 719468)) - (wrap64 (146097 * (wrap64 (Int.tdiv (wrap64 (a0 + 719468)) 146097)))))) - (wrap64 (Int.tdiv (wrap64 ((wrap64 (a0 + 719468)) - (wrap64 (146097 * (wrap64 (Int.tdiv (wrap64 (a0 + 719468)) 146097)))))) 1460)))) + (wrap64 (Int.tdiv (wrap64 ((wrap64 (a0 + 719468)) - (wrap64 (146097 * (wrap64 (Int.tdiv (wrap64 (a0 + 719468)) 146097)))))) 36524)))) - (wrap64 (Int.tdiv (wrap64 ((wrap64 (a0 + 719468)) - (wrap64 (146097 * (wrap64 (Int.tdiv (wrap64 (a0 + 719468)) 146097)))))) 146096)))) 365)))) + (wrap64 (Int.tdiv (wrap64 (Int.tdiv (wrap64 ((wrap64 ((wrap64 ((wrap64 ((wrap64 (a0 + 719468)) - (wrap64 (146097 * (wrap64 (Int.tdiv (wrap64 (a0 + 719468)) 146097)))))) - (wrap64 (Int.tdiv (wrap64 ((wrap64 (a0 + 719468)) - (wrap64 (146097 * (wrap64 (Int.tdiv (wrap64 (a0 + 719468)) 146097)))))) 1460)))) + (wrap64 (Int.tdiv (wrap64 ((wrap64 (a0 + 719468)) - (wrap64 (146097 * (wrap64 (Int.tdiv (wrap64 (a0 + 719468)) 146097)))))) 36524)))) - (wrap64 (Int.tdiv (wrap64 ((wrap64 (a0 + 719468)) - (wrap64 (146097 * (wrap64 (Int.tdiv (wrap64 (a0 + 719468)) 146097)))))) 146096)))) 365)) 4)))) - (wrap64 (Int.tdiv (wrap64 (Int.tdiv (wrap64 ((wrap64 ((wrap64 ((wrap64 ((wrap64 (a0 + 719468)) - (wrap64 (146097 * (wrap64 (Int.tdiv (wrap64 (a0 + 719468)) 146097)))))) - (wrap64 (Int.tdiv (wrap64 ((wrap64 (a0 + 719468)) - (wrap64 (146097 * (wrap64 (Int.tdiv (wrap64 (a0 + 719468)) 146097)))))) 1460)))) + (wrap64 (Int.tdiv (wrap64 ((wrap64 (a0 + 719468)) - (wrap64 (146097 * (wrap64 (Int.tdiv (wrap64 (a0 + 719468)) 146097)))))) 36524)))) - (wrap64 (Int.tdiv (wrap64 ((wrap64 (a0 + 719468)) - (wrap64 (146097 * (wrap64 (Int.tdiv (wrap64 (a0 + 719468)) 146097)))))) 146096)))) 365)) 100)))))) - (wrap64 (Int.tdiv (wrap64 ((wrap64 (153 * (wrap64 (Int.tdiv (wrap64 ((wrap64 (5 * (wrap64 ((wrap64 ((wrap64 (a0 + 719468)) - (wrap64 (146097 * (wrap64 (Int.tdiv (wrap64 (a0 + 719468)) 146097)))))) - (wrap64 ((wrap64 ((wrap64 (365 * (wrap64 (Int.tdiv (wrap64 ((wrap64 ((wrap64 ((wrap64 ((wrap64 (a0 + 719468)) - (wrap64 (146097 * (wrap64 (Int.tdiv (wrap64 (a0 + 719468)) 146097)))))) - (wrap64 (Int.tdiv (wrap64 ((wrap64 (a0 + 719468)) - (wrap64 (146097 * (wrap64 (Int.tdiv (wrap64 (a0 + 719468)) 146097)))))) 1460)))) + (wrap64 (Int.tdiv (wrap64 ((wrap64 (a0 + 719468)) - (wrap64 (146097 * (wrap64 (Int.tdiv (wrap64 (a0 + 719468)) 146097)))))) 36524)))) - (wrap64 (Int.tdiv (wrap64 ((wrap64 (a0 + 719468)) - (wrap64 (146097 * (wrap64 (Int.tdiv (wrap64 (a0 + 719468)) 146097)))))) 146096)))) 365)))) + (wrap64 (Int.tdiv (wrap64 (Int.tdiv (wrap64 ((wrap64 ((wrap64 ((wrap64 ((wrap64 (a0 + 719468)) - (wrap64 (146097 * (wrap64 (Int.tdiv (wrap64 (a0 + 719468)) 146097)))))) - (wrap64 (Int.tdiv (wrap64 ((wrap64 (a0 + 719468)) - (wrap64 (146097 * (wrap64 (Int.tdiv (wrap64 (a0 + 719468)) 146097)))))) 1460)))) + (wrap64 (Int.tdiv (wrap64 ((wrap64 (a0 + 719468)) - (wrap64 (146097 * (wrap64 (Int.tdiv (wrap64 (a0 + 719468)) 146097)))))) 36524)))) - (wrap64 (Int.tdiv (wrap64 ((wrap64 (a0 + 719468)) - (wrap64 (146097 * (wrap64 (Int.tdiv (wrap64 (a0 + 719468)) 146097)))))) 146096)))) 365)) 4)))) - (wrap64 (Int.tdiv (wrap64 (Int.tdiv (wrap64 ((wrap64 ((wrap64 ((wrap64 ((wrap64 (a0 + 719468)) - (wrap64 (146097 * (wrap64 (Int.tdiv (wrap64 (a0 + 719468)) 146097)))))) - (wrap64 (Int.tdiv (wrap64 ((wrap64 (a0 + 719468)) - (wrap64 (146097 * (wrap64 (Int.tdiv (wrap64 (a0 + 719468)) 146097)))))) 1460)))) + (wrap64 (Int.tdiv (wrap64 ((wrap64 (a0 + 719468)) - (wrap64 (146097 * (wrap64 (Int.tdiv (wrap64 (a0 + 719468)) 146097)))))) 36524)))) - (wrap64 (Int.tdiv (wrap64 ((wrap64 (a0 + 719468)) - (wrap64 (146097 * (wrap64 (Int.tdiv (wrap64 (a0 + 719468)) 146097)))))) 146096)))) 365)) 100)))))))) + 2)) 153)))) + 2)) 5)))) + 1))) else (some (wrap64 ((wrap64 ((wrap64 (Int.tdiv (wrap64 ((wrap64 ((wrap64 ((wrap64 ((wrap64 (a0 + 719468)) - (wrap64 (146097 * (wrap64 (Int.tdiv (wrap64 (a0 + 719468)) 146097)))))) - (wrap64 (Int.tdiv (wrap64 ((wrap64 (a0 + 719468)) - (wrap64 (146097 * (wrap64 (Int.tdiv (wrap64 (a0 + 719468)) 146097)))))) 1460)))) + (wrap64 (Int.tdiv (wrap64 ((wrap64 (a0 + 719468)) - (wrap64 (146097 * (wrap64 (Int.tdiv (wrap64 (a0 + 719468)) 146097)))))) 36524)))) - (wrap64 (Int.tdiv (wrap64 ((wrap64 (a0 + 719468)) - (wrap64 (146097 * (wrap64 (Int.tdiv (wrap64 (a0 + 719468)) 146097)))))) 146096)))) 365)) + (wrap64 (400 * (wrap64 (Int.tdiv (wrap64 (a0 + 719468)) 146097)))))) + 1), wrap64 ((wrap64 (Int.tdiv (wrap64 ((wrap64 (5 * (wrap64 ((wrap64 ((wrap64 (a0 + 719468)) - (wrap64 (146097 * (wrap64 (Int.tdiv (wrap64 (a0 + 719468)) 146097)))))) - (wrap64 ((wrap64 ((wrap64 (365 * (wrap64 (Int.tdiv (wrap64 ((wrap64 ((wrap64 ((wrap64 ((wrap64 (a0 + 719468)) - (wrap64 (146097 * (wrap64 (Int.tdiv (wrap64 (a0 + 719468)) 146097)))))) - (wrap64 (Int.tdiv (wrap64 ((wrap64 (a0 + 719468)) - (wrap64 (146097 * (wrap64 (Int.tdiv (wrap64 (a0 + 719468)) 146097)))))) 1460)))) + (wrap64 (Int.tdiv (wrap64 ((wrap64 (a0 + 719468)) - (wrap64 (146097 * (wrap64 (Int.tdiv (wrap64 (a0 + 719468)) 146097)))))) 36524)))) - (wrap64 (Int.tdiv (wrap64 ((wrap64 (a0 + 719468)) - (wrap64 (146097 * (wrap64 (Int.tdiv (wrap64 (a0 + 719468)) 146097)))))) 146096)))) 365)))) + (wrap64 (Int.tdiv (wrap64 (Int.tdiv (wrap64 ((wrap64 ((wrap64 ((wrap64 ((wrap64 (a0 + 719468)) - (wrap64 (146097 * (wrap64 (Int.tdiv (wrap64 (a0 + 719468)) 146097)))))) - (wrap64 (Int.tdiv (wrap64 ((wrap64 (a0 + 719468)) - (wrap64 (146097 * (wrap64 (Int.tdiv (wrap64 (a0 + 719468)) 146097)))))) 1460)))) + (wrap64 (Int.tdiv (wrap64 ((wrap64 (a0 + 719468)) - (wrap64 (146097 * (wrap64 (Int.tdiv (wrap64 (a0 + 719468)) 146097)))))) 36524)))) - (wrap64 (Int.tdiv (wrap64 ((wrap64 (a0 + 719468)) - (wrap64 (146097 * (wrap64 (Int.tdiv (wrap64 (a0 + 719468)) 146097)))))) 146096)))) 365)) 4)))) - (wrap64 (Int.tdiv (wrap64 (Int.tdiv (wrap64 ((wrap64 ((wrap64 ((wrap64 ((wrap64 (a0 + 719468)) - (wrap64 (146097 * (wrap64 (Int.tdiv (wrap64 (a0 + 719468)) 146097)))))) - (wrap64 (Int.tdiv (wrap64 ((wrap64 (a0 + 719468)) - (wrap64 (146097 * (wrap64 (Int.tdiv (wrap64 (a0 + 719468)) 146097)))))) 1460)))) + (wrap64 (Int.tdiv (wrap64 ((wrap64 (a0 + 719468)) - (wrap64 (146097 * (wrap64 (Int.tdiv (wrap64 (a0 + 719468)) 146097)))))) 36524)))) - (wrap64 (Int.tdiv (wrap64 ((wrap64 (a0 + 719468)) - (wrap64 (146097 * (wrap64 (Int.tdiv (wrap64 (a0 + 719468)) 146097)))))) 146096)))) 365)) 100)))))))) + 2)) 153)) - 9), wrap64 ((wrap64 ((wrap64 ((wrap64 ((wrap64 (a0 + 719468)) - (wrap64 (146097 * (wrap64 (Int.tdiv (wrap64 (a0 + 719468)) 146097)))))) - (wrap64 ((wrap64 ((wrap64 (365 * (wrap64 (Int.tdiv (wrap64 ((wrap64 ((wrap64 ((wrap64 ((wrap64 (a0 + 719468)) - (wrap64 (146097 * (wrap64 (Int.tdiv (wrap64 (a0 + 719468)) 146097)))))) - (wrap64 (Int.tdiv (wrap64 ((wrap64 (a0 + 719468)) - (wrap64 (146097 * (wrap64 (Int.tdiv (wrap64 (a0 + 719468)) 146097)))))) 1460)))) + (wrap64 (Int.tdiv (wrap64 ((wrap64 (a0 + 719468)) - (wrap64 (146097 * (wrap64 (Int.tdiv (wrap64 (a0 + 719468)) 146097)))))) 36524)))) - (wrap64 (Int.tdiv (wrap64 ((wrap64 (a0 + 719468)) - (wrap64 (146097 * (wrap64 (Int.tdiv (wrap64 (a0 + 719468)) 146097)))))) 146096)))) 365)))) + (wrap64 (Int.tdiv (wrap64 (Int.tdiv (wrap64 ((wrap64 ((wrap64 ((wrap64 ((wrap64 (a0 + 719468)) - (wrap64 (146097 * (wrap64 (Int.tdiv (wrap64 (a0 + 719468)) 146097)))))) - (wrap64 (Int.tdiv (wrap64 ((wrap64 (a0 + 719468)) - (wrap64 (146097 * (wrap64 (Int.tdiv (wrap64 (a0 + 719468)) 146097)))))) 1460)))) + (wrap64 (Int.tdiv (wrap64 ((wrap64 (a0 + 719468)) - (wrap64 (146097 * (wrap64 (Int.tdiv (wrap64 (a0 + 719468)) 146097)))))) 36524)))) - (wrap64 (Int.tdiv (wrap64 ((wrap64 (a0 + 719468)) - (wrap64 (146097 * (wrap64 (Int.tdiv (wrap64 (a0 + 719468)) 146097)))))) 146096)))) 365)) 4)))) - (wrap64 (Int.tdiv (wrap64 (Int.tdiv (wrap64 ((wrap64 ((wrap64 ((wrap64 ((wrap64 (a0 + 719468)) - (wrap64 (146097 * (wrap64 (Int.tdiv (wrap64 (a0 + 719468)) 146097)))))) - (wrap64 (Int.tdiv (wrap64 ((wrap64 (a0 + 719468)) - (wrap64 (146097 * (wrap64 (Int.tdiv (wrap64 (a0 + 719468)) 146097)))))) 1460)))) + (wrap64 (Int.tdiv (wrap64 ((wrap64 (a0 + 719468)) - (wrap64 (146097 * (wrap64 (Int.tdiv (wrap64 (a0 + 719468)) 146097)))))) 36524)))) - (wrap64 (Int.tdiv (wrap64 ((wrap64 (a0 + 719468)) - (wrap64 (146097 * (wrap64 (Int.tdiv (wrap64 (a0 + 719468)) 146097)))))) 146096)))) 365)) 100)))))) - (wrap64 (Int.tdiv (wrap64 ((wrap64 (153 * (wrap64 (Int.tdiv (wrap64 ((wrap64 (5 * (wrap64 ((wrap64 ((wrap64 (a0 + 719468)) - (wrap64 (146097 * (wrap64 (Int.tdiv (wrap64 (a0 + 719468)) 146097)))))) - (wrap64 ((wrap64 ((wrap64 (365 * (wrap64 (Int.tdiv (wrap64 ((wrap64 ((wrap64 ((wrap64 ((wrap64 (a0 + 719468)) - (wrap64 (146097 * (wrap64 (Int.tdiv (wrap64 (a0 + 719468)) 146097)))))) - (wrap64 (Int.tdiv (wrap64 ((wrap64 (a0 + 719468)) - (wrap64 (146097 * (wrap64 (Int.tdiv (wrap64 (a0 + 719468)) 146097)))))) 1460)))) + (wrap64 (Int.tdiv (wrap64 ((wrap64 (a0 + 719468)) - (wrap64 (146097 * (wrap64 (Int.tdiv (wrap64 (a0 + 719468)) 146097)))))) 36524)))) - (wrap64 (Int.tdiv (wrap64 ((wrap64 (a0 + 719468)) - (wrap64 (146097 * (wrap64 (Int.tdiv (wrap64 (a0 + 719468)) 146097)))))) 146096)))) 365)))) + (wrap64 (Int.tdiv (wrap64 (Int.tdiv (wrap64 ((wrap64 ((wrap64 ((wrap64 ((wrap64 (a0 + 719468)) - (wrap64 (146097 * (wrap64 (Int.tdiv (wrap64 (a0 + 719468)) 146097)))))) - (wrap64 (Int.tdiv (wrap64 ((wrap64 (a0 + 719468)) - (wrap64 (146097 * (wrap64 (Int.tdiv (wrap64 (a0 + 719468)) 146097)))))) 1460)))) + (wrap64 (Int.tdiv (wrap64 ((wrap64 (a0 + 719468)) - (wrap64 (146097 * (wrap64 (Int.tdiv (wrap64 (a0 + 719468)) 146097)))))) 36524)))) - (wrap64 (Int.tdiv (wrap64 ((wrap64 (a0 + 719468)) - (wrap64 (146097 * (wrap64 (Int.tdiv (wrap64 (a0 + 719468)) 146097)))))) 146096)))) 365)) 4)))) - (wrap64 (Int.tdiv (wrap64 (Int.tdiv (wrap64 ((wrap64 ((wrap64 ((wrap64 ((wrap64 (a0 + 719468)) - (wrap64 (146097 * (wrap64 (Int.tdiv (wrap64 (a0 + 719468)) 146097)))))) - (wrap64 (Int.tdiv (wrap64 ((wrap64 (a0 + 719468)) - (wrap64 (146097 * (wrap64 (Int.tdiv (wrap64 (a0 + 719468)) 146097)))))) 1460)))) + (wrap64 (Int.tdiv (wrap64 ((wrap64 (a0 + 719468)) - (wrap64 (146097 * (wrap64 (Int.tdiv (wrap64 (a0 + 719468)) 146097)))))) 36524)))) - (wrap64 (Int.tdiv (wrap64 ((wrap64 (a0 + 719468)) - (wrap64 (146097 * (wrap64 (Int.tdiv (wrap64 (a0 + 719468)) 146097)))))) 146096)))) 365)) 100)))))))) + 2)) 153)))) + 2)) 5)))) + 1))))
set_option maxHeartbeats 8000000 in
set_option maxRecDepth 100000 in
theorem list_date.calls (a0 : Int) (r1 : Int) (r2 : Int) (r3 : Int) (w : World) (h : list_date.f a0 = some (r1, r2, r3)) :
    Calls Try.prog 50 #[.int .i64 a0] w fun e w' => e = .returned (.tuple #[.int .i64 r1, .int .i64 r2, .int .i64 r3]) ∧ Drawn0 w w' := by
  have H : (if (wrap64 (a0 + 719468)) < 0 then (if (wrap64 (Int.tdiv (wrap64 ((wrap64 (5 * (wrap64 ((wrap64 ((wrap64 (a0 + 719468)) - (wrap64 (146097 * (wrap64 (Int.tdiv (wrap64 ((wrap64 (a0 + 719468)) - 146096)) 146097)))))) - (wrap64 ((wrap64 ((wrap64 (365 * (wrap64 (Int.tdiv (wrap64 ((wrap64 ((wrap64 ((wrap64 ((wrap64 (a0 + 719468)) - (wrap64 (146097 * (wrap64 (Int.tdiv (wrap64 ((wrap64 (a0 + 719468)) - 146096)) 146097)))))) - (wrap64 (Int.tdiv (wrap64 ((wrap64 (a0 + 719468)) - (wrap64 (146097 * (wrap64 (Int.tdiv (wrap64 ((wrap64 (a0 + 719468)) - 146096)) 146097)))))) 1460)))) + (wrap64 (Int.tdiv (wrap64 ((wrap64 (a0 + 719468)) - (wrap64 (146097 * (wrap64 (Int.tdiv (wrap64 ((wrap64 (a0 + 719468)) - 146096)) 146097)))))) 36524)))) - (wrap64 (Int.tdiv (wrap64 ((wrap64 (a0 + 719468)) - (wrap64 (146097 * (wrap64 (Int.tdiv (wrap64 ((wrap64 (a0 + 719468)) - 146096)) 146097)))))) 146096)))) 365)))) + (wrap64 (Int.tdiv (wrap64 (Int.tdiv (wrap64 ((wrap64 ((wrap64 ((wrap64 ((wrap64 (a0 + 719468)) - (wrap64 (146097 * (wrap64 (Int.tdiv (wrap64 ((wrap64 (a0 + 719468)) - 146096)) 146097)))))) - (wrap64 (Int.tdiv (wrap64 ((wrap64 (a0 + 719468)) - (wrap64 (146097 * (wrap64 (Int.tdiv (wrap64 ((wrap64 (a0 + 719468)) - 146096)) 146097)))))) 1460)))) + (wrap64 (Int.tdiv (wrap64 ((wrap64 (a0 + 719468)) - (wrap64 (146097 * (wrap64 (Int.tdiv (wrap64 ((wrap64 (a0 + 719468)) - 146096)) 146097)))))) 36524)))) - (wrap64 (Int.tdiv (wrap64 ((wrap64 (a0 + 719468)) - (wrap64 (146097 * (wrap64 (Int.tdiv (wrap64 ((wrap64 (a0 + 719468)) - 146096)) 146097)))))) 146096)))) 365)) 4)))) - (wrap64 (Int.tdiv (wrap64 (Int.tdiv (wrap64 ((wrap64 ((wrap64 ((wrap64 ((wrap64 (a0 + 719468)) - (wrap64 (146097 * (wrap64 (Int.tdiv (wrap64 ((wrap64 (a0 + 719468)) - 146096)) 146097)))))) - (wrap64 (Int.tdiv (wrap64 ((wrap64 (a0 + 719468)) - (wrap64 (146097 * (wrap64 (Int.tdiv (wrap64 ((wrap64 (a0 + 719468)) - 146096)) 146097)))))) 1460)))) + (wrap64 (Int.tdiv (wrap64 ((wrap64 (a0 + 719468)) - (wrap64 (146097 * (wrap64 (Int.tdiv (wrap64 ((wrap64 (a0 + 719468)) - 146096)) 146097)))))) 36524)))) - (wrap64 (Int.tdiv (wrap64 ((wrap64 (a0 + 719468)) - (wrap64 (146097 * (wrap64 (Int.tdiv (wrap64 ((wrap64 (a0 + 719468)) - 146096)) 146097)))))) 146096)))) 365)) 100)))))))) + 2)) 153)) < 10 then (some (wrap64 ((wrap64 (Int.tdiv (wrap64 ((wrap64 ((wrap64 ((wrap64 ((wrap64 (a0 + 719468)) - (wrap64 (146097 * (wrap64 (Int.tdiv (wrap64 ((wrap64 (a0 + 719468)) - 146096)) 146097)))))) - (wrap64 (Int.tdiv (wrap64 ((wrap64 (a0 + 719468)) - (wrap64 (146097 * (wrap64 (Int.tdiv (wrap64 ((wrap64 (a0 + 719468)) - 146096)) 146097)))))) 1460)))) + (wrap64 (Int.tdiv (wrap64 ((wrap64 (a0 + 719468)) - (wrap64 (146097 * (wrap64 (Int.tdiv (wrap64 ((wrap64 (a0 + 719468)) - 146096)) 146097)))))) 36524)))) - (wrap64 (Int.tdiv (wrap64 ((wrap64 (a0 + 719468)) - (wrap64 (146097 * (wrap64 (Int.tdiv (wrap64 ((wrap64 (a0 + 719468)) - 146096)) 146097)))))) 146096)))) 365)) + (wrap64 (400 * (wrap64 (Int.tdiv (wrap64 ((wrap64 (a0 + 719468)) - 146096)) 146097))))), wrap64 ((wrap64 (Int.tdiv (wrap64 ((wrap64 (5 * (wrap64 ((wrap64 ((wrap64 (a0 + 719468)) - (wrap64 (146097 * (wrap64 (Int.tdiv (wrap64 ((wrap64 (a0 + 719468)) - 146096)) 146097)))))) - (wrap64 ((wrap64 ((wrap64 (365 * (wrap64 (Int.tdiv (wrap64 ((wrap64 ((wrap64 ((wrap64 ((wrap64 (a0 + 719468)) - (wrap64 (146097 * (wrap64 (Int.tdiv (wrap64 ((wrap64 (a0 + 719468)) - 146096)) 146097)))))) - (wrap64 (Int.tdiv (wrap64 ((wrap64 (a0 + 719468)) - (wrap64 (146097 * (wrap64 (Int.tdiv (wrap64 ((wrap64 (a0 + 719468)) - 146096)) 146097)))))) 1460)))) + (wrap64 (Int.tdiv (wrap64 ((wrap64 (a0 + 719468)) - (wrap64 (146097 * (wrap64 (Int.tdiv (wrap64 ((wrap64 (a0 + 719468)) - 146096)) 146097)))))) 36524)))) - (wrap64 (Int.tdiv (wrap64 ((wrap64 (a0 + 719468)) - (wrap64 (146097 * (wrap64 (Int.tdiv (wrap64 ((wrap64 (a0 + 719468)) - 146096)) 146097)))))) 146096)))) 365)))) + (wrap64 (Int.tdiv (wrap64 (Int.tdiv (wrap64 ((wrap64 ((wrap64 ((wrap64 ((wrap64 (a0 + 719468)) - (wrap64 (146097 * (wrap64 (Int.tdiv (wrap64 ((wrap64 (a0 + 719468)) - 146096)) 146097)))))) - (wrap64 (Int.tdiv (wrap64 ((wrap64 (a0 + 719468)) - (wrap64 (146097 * (wrap64 (Int.tdiv (wrap64 ((wrap64 (a0 + 719468)) - 146096)) 146097)))))) 1460)))) + (wrap64 (Int.tdiv (wrap64 ((wrap64 (a0 + 719468)) - (wrap64 (146097 * (wrap64 (Int.tdiv (wrap64 ((wrap64 (a0 + 719468)) - 146096)) 146097)))))) 36524)))) - (wrap64 (Int.tdiv (wrap64 ((wrap64 (a0 + 719468)) - (wrap64 (146097 * (wrap64 (Int.tdiv (wrap64 ((wrap64 (a0 + 719468)) - 146096)) 146097)))))) 146096)))) 365)) 4)))) - (wrap64 (Int.tdiv (wrap64 (Int.tdiv (wrap64 ((wrap64 ((wrap64 ((wrap64 ((wrap64 (a0 + 719468)) - (wrap64 (146097 * (wrap64 (Int.tdiv (wrap64 ((wrap64 (a0 + 719468)) - 146096)) 146097)))))) - (wrap64 (Int.tdiv (wrap64 ((wrap64 (a0 + 719468)) - (wrap64 (146097 * (wrap64 (Int.tdiv (wrap64 ((wrap64 (a0 + 719468)) - 146096)) 146097)))))) 1460)))) + (wrap64 (Int.tdiv (wrap64 ((wrap64 (a0 + 719468)) - (wrap64 (146097 * (wrap64 (Int.tdiv (wrap64 ((wrap64 (a0 + 719468)) - 146096)) 146097)))))) 36524)))) - (wrap64 (Int.tdiv (wrap64 ((wrap64 (a0 + 719468)) - (wrap64 (146097 * (wrap64 (Int.tdiv (wrap64 ((wrap64 (a0 + 719468)) - 146096)) 146097)))))) 146096)))) 365)) 100)))))))) + 2)) 153)) + 3), wrap64 ((wrap64 ((wrap64 ((wrap64 ((wrap64 (a0 + 719468)) - (wrap64 (146097 * (wrap64 (Int.tdiv (wrap64 ((wrap64 (a0 + 719468)) - 146096)) 146097)))))) - (wrap64 ((wrap64 ((wrap64 (365 * (wrap64 (Int.tdiv (wrap64 ((wrap64 ((wrap64 ((wrap64 ((wrap64 (a0 + 719468)) - (wrap64 (146097 * (wrap64 (Int.tdiv (wrap64 ((wrap64 (a0 + 719468)) - 146096)) 146097)))))) - (wrap64 (Int.tdiv (wrap64 ((wrap64 (a0 + 719468)) - (wrap64 (146097 * (wrap64 (Int.tdiv (wrap64 ((wrap64 (a0 + 719468)) - 146096)) 146097)))))) 1460)))) + (wrap64 (Int.tdiv (wrap64 ((wrap64 (a0 + 719468)) - (wrap64 (146097 * (wrap64 (Int.tdiv (wrap64 ((wrap64 (a0 + 719468)) - 146096)) 146097)))))) 36524)))) - (wrap64 (Int.tdiv (wrap64 ((wrap64 (a0 + 719468)) - (wrap64 (146097 * (wrap64 (Int.tdiv (wrap64 ((wrap64 (a0 + 719468)) - 146096)) 146097)))))) 146096)))) 365)))) + (wrap64 (Int.tdiv (wrap64 (Int.tdiv (wrap64 ((wrap64 ((wrap64 ((wrap64 ((wrap64 (a0 + 719468)) - (wrap64 (146097 * (wrap64 (Int.tdiv (wrap64 ((wrap64 (a0 + 719468)) - 146096)) 146097)))))) - (wrap64 (Int.tdiv (wrap64 ((wrap64 (a0 + 719468)) - (wrap64 (146097 * (wrap64 (Int.tdiv (wrap64 ((wrap64 (a0 + 719468)) - 146096)) 146097)))))) 1460)))) + (wrap64 (Int.tdiv (wrap64 ((wrap64 (a0 + 719468)) - (wrap64 (146097 * (wrap64 (Int.tdiv (wrap64 ((wrap64 (a0 + 719468)) - 146096)) 146097)))))) 36524)))) - (wrap64 (Int.tdiv (wrap64 ((wrap64 (a0 + 719468)) - (wrap64 (146097 * (wrap64 (Int.tdiv (wrap64 ((wrap64 (a0 + 719468)) - 146096)) 146097)))))) 146096)))) 365)) 4)))) - (wrap64 (Int.tdiv (wrap64 (Int.tdiv (wrap64 ((wrap64 ((wrap64 ((wrap64 ((wrap64 (a0 + 719468)) - (wrap64 (146097 * (wrap64 (Int.tdiv (wrap64 ((wrap64 (a0 + 719468)) - 146096)) 146097)))))) - (wrap64 (Int.tdiv (wrap64 ((wrap64 (a0 + 719468)) - (wrap64 (146097 * (wrap64 (Int.tdiv (wrap64 ((wrap64 (a0 + 719468)) - 146096)) 146097)))))) 1460)))) + (wrap64 (Int.tdiv (wrap64 ((wrap64 (a0 + 719468)) - (wrap64 (146097 * (wrap64 (Int.tdiv (wrap64 ((wrap64 (a0 + 719468)) - 146096)) 146097)))))) 36524)))) - (wrap64 (Int.tdiv (wrap64 ((wrap64 (a0 + 719468)) - (wrap64 (146097 * (wrap64 (Int.tdiv (wrap64 ((wrap64 (a0 + 719468)) - 146096)) 146097)))))) 146096)))) 365)) 100)))))) - (wrap64 (Int.tdiv (wrap64 ((wrap64 (153 * (wrap64 (Int.tdiv (wrap64 ((wrap64 (5 * (wrap64 ((wrap64 ((wrap64 (a0 + 719468)) - (wrap64 (146097 * (wrap64 (Int.tdiv (wrap64 ((wrap64 (a0 + 719468)) - 146096)) 146097)))))) - (wrap64 ((wrap64 ((wrap64 (365 * (wrap64 (Int.tdiv (wrap64 ((wrap64 ((wrap64 ((wrap64 ((wrap64 (a0 + 719468)) - (wrap64 (146097 * (wrap64 (Int.tdiv (wrap64 ((wrap64 (a0 + 719468)) - 146096)) 146097)))))) - (wrap64 (Int.tdiv (wrap64 ((wrap64 (a0 + 719468)) - (wrap64 (146097 * (wrap64 (Int.tdiv (wrap64 ((wrap64 (a0 + 719468)) - 146096)) 146097)))))) 1460)))) + (wrap64 (Int.tdiv (wrap64 ((wrap64 (a0 + 719468)) - (wrap64 (146097 * (wrap64 (Int.tdiv (wrap64 ((wrap64 (a0 + 719468)) - 146096)) 146097)))))) 36524)))) - (wrap64 (Int.tdiv (wrap64 ((wrap64 (a0 + 719468)) - (wrap64 (146097 * (wrap64 (Int.tdiv (wrap64 ((wrap64 (a0 + 719468)) - 146096)) 146097)))))) 146096)))) 365)))) + (wrap64 (Int.tdiv (wrap64 (Int.tdiv (wrap64 ((wrap64 ((wrap64 ((wrap64 ((wrap64 (a0 + 719468)) - (wrap64 (146097 * (wrap64 (Int.tdiv (wrap64 ((wrap64 (a0 + 719468)) - 146096)) 146097)))))) - (wrap64 (Int.tdiv (wrap64 ((wrap64 (a0 + 719468)) - (wrap64 (146097 * (wrap64 (Int.tdiv (wrap64 ((wrap64 (a0 + 719468)) - 146096)) 146097)))))) 1460)))) + (wrap64 (Int.tdiv (wrap64 ((wrap64 (a0 + 719468)) - (wrap64 (146097 * (wrap64 (Int.tdiv (wrap64 ((wrap64 (a0 + 719468)) - 146096)) 146097)))))) 36524)))) - (wrap64 (Int.tdiv (wrap64 ((wrap64 (a0 + 719468)) - (wrap64 (146097 * (wrap64 (Int.tdiv (wrap64 ((wrap64 (a0 + 719468)) - 146096)) 146097)))))) 146096)))) 365)) 4)))) - (wrap64 (Int.tdiv (wrap64 (Int.tdiv (wrap64 ((wrap64 ((wrap64 ((wrap64 ((wrap64 (a0 + 719468)) - (wrap64 (146097 * (wrap64 (Int.tdiv (wrap64 ((wrap64 (a0 + 719468)) - 146096)) 146097)))))) - (wrap64 (Int.tdiv (wrap64 ((wrap64 (a0 + 719468)) - (wrap64 (146097 * (wrap64 (Int.tdiv (wrap64 ((wrap64 (a0 + 719468)) - 146096)) 146097)))))) 1460)))) + (wrap64 (Int.tdiv (wrap64 ((wrap64 (a0 + 719468)) - (wrap64 (146097 * (wrap64 (Int.tdiv (wrap64 ((wrap64 (a0 + 719468)) - 146096)) 146097)))))) 36524)))) - (wrap64 (Int.tdiv (wrap64 ((wrap64 (a0 + 719468)) - (wrap64 (146097 * (wrap64 (Int.tdiv (wrap64 ((wrap64 (a0 + 719468)) - 146096)) 146097)))))) 146096)))) 365)) 100)))))))) + 2)) 153)))) + 2)) 5)))) + 1))) else (some (wrap64 ((wrap64 ((wrap64 (Int.tdiv (wrap64 ((wrap64 ((wrap64 ((wrap64 ((wrap64 (a0 + 719468)) - (wrap64 (146097 * (wrap64 (Int.tdiv (wrap64 ((wrap64 (a0 + 719468)) - 146096)) 146097)))))) - (wrap64 (Int.tdiv (wrap64 ((wrap64 (a0 + 719468)) - (wrap64 (146097 * (wrap64 (Int.tdiv (wrap64 ((wrap64 (a0 + 719468)) - 146096)) 146097)))))) 1460)))) + (wrap64 (Int.tdiv (wrap64 ((wrap64 (a0 + 719468)) - (wrap64 (146097 * (wrap64 (Int.tdiv (wrap64 ((wrap64 (a0 + 719468)) - 146096)) 146097)))))) 36524)))) - (wrap64 (Int.tdiv (wrap64 ((wrap64 (a0 + 719468)) - (wrap64 (146097 * (wrap64 (Int.tdiv (wrap64 ((wrap64 (a0 + 719468)) - 146096)) 146097)))))) 146096)))) 365)) + (wrap64 (400 * (wrap64 (Int.tdiv (wrap64 ((wrap64 (a0 + 719468)) - 146096)) 146097)))))) + 1), wrap64 ((wrap64 (Int.tdiv (wrap64 ((wrap64 (5 * (wrap64 ((wrap64 ((wrap64 (a0 + 719468)) - (wrap64 (146097 * (wrap64 (Int.tdiv (wrap64 ((wrap64 (a0 + 719468)) - 146096)) 146097)))))) - (wrap64 ((wrap64 ((wrap64 (365 * (wrap64 (Int.tdiv (wrap64 ((wrap64 ((wrap64 ((wrap64 ((wrap64 (a0 + 719468)) - (wrap64 (146097 * (wrap64 (Int.tdiv (wrap64 ((wrap64 (a0 + 719468)) - 146096)) 146097)))))) - (wrap64 (Int.tdiv (wrap64 ((wrap64 (a0 + 719468)) - (wrap64 (146097 * (wrap64 (Int.tdiv (wrap64 ((wrap64 (a0 + 719468)) - 146096)) 146097)))))) 1460)))) + (wrap64 (Int.tdiv (wrap64 ((wrap64 (a0 + 719468)) - (wrap64 (146097 * (wrap64 (Int.tdiv (wrap64 ((wrap64 (a0 + 719468)) - 146096)) 146097)))))) 36524)))) - (wrap64 (Int.tdiv (wrap64 ((wrap64 (a0 + 719468)) - (wrap64 (146097 * (wrap64 (Int.tdiv (wrap64 ((wrap64 (a0 + 719468)) - 146096)) 146097)))))) 146096)))) 365)))) + (wrap64 (Int.tdiv (wrap64 (Int.tdiv (wrap64 ((wrap64 ((wrap64 ((wrap64 ((wrap64 (a0 + 719468)) - (wrap64 (146097 * (wrap64 (Int.tdiv (wrap64 ((wrap64 (a0 + 719468)) - 146096)) 146097)))))) - (wrap64 (Int.tdiv (wrap64 ((wrap64 (a0 + 719468)) - (wrap64 (146097 * (wrap64 (Int.tdiv (wrap64 ((wrap64 (a0 + 719468)) - 146096)) 146097)))))) 1460)))) + (wrap64 (Int.tdiv (wrap64 ((wrap64 (a0 + 719468)) - (wrap64 (146097 * (wrap64 (Int.tdiv (wrap64 ((wrap64 (a0 + 719468)) - 146096)) 146097)))))) 36524)))) - (wrap64 (Int.tdiv (wrap64 ((wrap64 (a0 + 719468)) - (wrap64 (146097 * (wrap64 (Int.tdiv (wrap64 ((wrap64 (a0 + 719468)) - 146096)) 146097)))))) 146096)))) 365)) 4)))) - (wrap64 (Int.tdiv (wrap64 (Int.tdiv (wrap64 ((wrap64 ((wrap64 ((wrap64 ((wrap64 (a0 + 719468)) - (wrap64 (146097 * (wrap64 (Int.tdiv (wrap64 ((wrap64 (a0 + 719468)) - 146096)) 146097)))))) - (wrap64 (Int.tdiv (wrap64 ((wrap64 (a0 + 719468)) - (wrap64 (146097 * (wrap64 (Int.tdiv (wrap64 ((wrap64 (a0 + 719468)) - 146096)) 146097)))))) 1460)))) + (wrap64 (Int.tdiv (wrap64 ((wrap64 (a0 + 719468)) - (wrap64 (146097 * (wrap64 (Int.tdiv (wrap64 ((wrap64 (a0 + 719468)) - 146096)) 146097)))))) 36524)))) - (wrap64 (Int.tdiv (wrap64 ((wrap64 (a0 + 719468)) - (wrap64 (146097 * (wrap64 (Int.tdiv (wrap64 ((wrap64 (a0 + 719468)) - 146096)) 146097)))))) 146096)))) 365)) 100)))))))) + 2)) 153)) - 9), wrap64 ((wrap64 ((wrap64 ((wrap64 ((wrap64 (a0 + 719468)) - (wrap64 (146097 * (wrap64 (Int.tdiv (wrap64 ((wrap64 (a0 + 719468)) - 146096)) 146097)))))) - (wrap64 ((wrap64 ((wrap64 (365 * (wrap64 (Int.tdiv (wrap64 ((wrap64 ((wrap64 ((wrap64 ((wrap64 (a0 + 719468)) - (wrap64 (146097 * (wrap64 (Int.tdiv (wrap64 ((wrap64 (a0 + 719468)) - 146096)) 146097)))))) - (wrap64 (Int.tdiv (wrap64 ((wrap64 (a0 + 719468)) - (wrap64 (146097 * (wrap64 (Int.tdiv (wrap64 ((wrap64 (a0 + 719468)) - 146096)) 146097)))))) 1460)))) + (wrap64 (Int.tdiv (wrap64 ((wrap64 (a0 + 719468)) - (wrap64 (146097 * (wrap64 (Int.tdiv (wrap64 ((wrap64 (a0 + 719468)) - 146096)) 146097)))))) 36524)))) - (wrap64 (Int.tdiv (wrap64 ((wrap64 (a0 + 719468)) - (wrap64 (146097 * (wrap64 (Int.tdiv (wrap64 ((wrap64 (a0 + 719468)) - 146096)) 146097)))))) 146096)))) 365)))) + (wrap64 (Int.tdiv (wrap64 (Int.tdiv (wrap64 ((wrap64 ((wrap64 ((wrap64 ((wrap64 (a0 + 719468)) - (wrap64 (146097 * (wrap64 (Int.tdiv (wrap64 ((wrap64 (a0 + 719468)) - 146096)) 146097)))))) - (wrap64 (Int.tdiv (wrap64 ((wrap64 (a0 + 719468)) - (wrap64 (146097 * (wrap64 (Int.tdiv (wrap64 ((wrap64 (a0 + 719468)) - 146096)) 146097)))))) 1460)))) + (wrap64 (Int.tdiv (wrap64 ((wrap64 (a0 + 719468)) - (wrap64 (146097 * (wrap64 (Int.tdiv (wrap64 ((wrap64 (a0 + 719468)) - 146096)) 146097)))))) 36524)))) - (wrap64 (Int.tdiv (wrap64 ((wrap64 (a0 + 719468)) - (wrap64 (146097 * (wrap64 (Int.tdiv (wrap64 ((wrap64 (a0 + 719468)) - 146096)) 146097)))))) 146096)))) 365)) 4)))) - (wrap64 (Int.tdiv (wrap64 (Int.tdiv (wrap64 ((wrap64 ((wrap64 ((wrap64 ((wrap64 (a0 + 719468)) - (wrap64 (146097 * (wrap64 (Int.tdiv (wrap64 ((wrap64 (a0 + 719468)) - 146096)) 146097)))))) - (wrap64 (Int.tdiv (wrap64 ((wrap64 (a0 + 719468)) - (wrap64 (146097 * (wrap64 (Int.tdiv (wrap64 ((wrap64 (a0 + 719468)) - 146096)) 146097)))))) 1460)))) + (wrap64 (Int.tdiv (wrap64 ((wrap64 (a0 + 719468)) - (wrap64 (146097 * (wrap64 (Int.tdiv (wrap64 ((wrap64 (a0 + 719468)) - 146096)) 146097)))))) 36524)))) - (wrap64 (Int.tdiv (wrap64 ((wrap64 (a0 + 719468)) - (wrap64 (146097 * (wrap64 (Int.tdiv (wrap64 ((wrap64 (a0 + 719468)) - 146096)) 146097)))))) 146096)))) 365)) 100)))))) - (wrap64 (Int.tdiv (wrap64 ((wrap64 (153 * (wrap64 (Int.tdiv (wrap64 ((wrap64 (5 * (wrap64 ((wrap64 ((wrap64 (a0 + 719468)) - (wrap64 (146097 * (wrap64 (Int.tdiv (wrap64 ((wrap64 (a0 + 719468)) - 146096)) 146097)))))) - (wrap64 ((wrap64 ((wrap64 (365 * (wrap64 (Int.tdiv (wrap64 ((wrap64 ((wrap64 ((wrap64 ((wrap64 (a0 + 719468)) - (wrap64 (146097 * (wrap64 (Int.tdiv (wrap64 ((wrap64 (a0 + 719468)) - 146096)) 146097)))))) - (wrap64 (Int.tdiv (wrap64 ((wrap64 (a0 + 719468)) - (wrap64 (146097 * (wrap64 (Int.tdiv (wrap64 ((wrap64 (a0 + 719468)) - 146096)) 146097)))))) 1460)))) + (wrap64 (Int.tdiv (wrap64 ((wrap64 (a0 + 719468)) - (wrap64 (146097 * (wrap64 (Int.tdiv (wrap64 ((wrap64 (a0 + 719468)) - 146096)) 146097)))))) 36524)))) - (wrap64 (Int.tdiv (wrap64 ((wrap64 (a0 + 719468)) - (wrap64 (146097 * (wrap64 (Int.tdiv (wrap64 ((wrap64 (a0 + 719468)) - 146096)) 146097)))))) 146096)))) 365)))) + (wrap64 (Int.tdiv (wrap64 (Int.tdiv (wrap64 ((wrap64 ((wrap64 ((wrap64 ((wrap64 (a0 + 719468)) - (wrap64 (146097 * (wrap64 (Int.tdiv (wrap64 ((wrap64 (a0 + 719468)) - 146096)) 146097)))))) - (wrap64 (Int.tdiv (wrap64 ((wrap64 (a0 + 719468)) - (wrap64 (146097 * (wrap64 (Int.tdiv (wrap64 ((wrap64 (a0 + 719468)) - 146096)) 146097)))))) 1460)))) + (wrap64 (Int.tdiv (wrap64 ((wrap64 (a0 + 719468)) - (wrap64 (146097 * (wrap64 (Int.tdiv (wrap64 ((wrap64 (a0 + 719468)) - 146096)) 146097)))))) 36524)))) - (wrap64 (Int.tdiv (wrap64 ((wrap64 (a0 + 719468)) - (wrap64 (146097 * (wrap64 (Int.tdiv (wrap64 ((wrap64 (a0 + 719468)) - 146096)) 146097)))))) 146096)))) 365)) 4)))) - (wrap64 (Int.tdiv (wrap64 (Int.tdiv (wrap64 ((wrap64 ((wrap64 ((wrap64 ((wrap64 (a0 + 719468)) - (wrap64 (146097 * (wrap64 (Int.tdiv (wrap64 ((wrap64 (a0 + 719468)) - 146096)) 146097)))))) - (wrap64 (Int.tdiv (wrap64 ((wrap64 (a0 + 719468)) - (wrap64 (146097 * (wrap64 (Int.tdiv (wrap64 ((wrap64 (a0 + 719468)) - 146096)) 146097)))))) 1460)))) + (wrap64 (Int.tdiv (wrap64 ((wrap64 (a0 + 719468)) - (wrap64 (146097 * (wrap64 (Int.tdiv (wrap64 ((wrap64 (a0 + 719468)) - 146096)) 146097)))))) 36524)))) - (wrap64 (Int.tdiv (wrap64 ((wrap64 (a0 + 719468)) - (wrap64 (146097 * (wrap64 (Int.tdiv (wrap64 ((wrap64 (a0 + 719468)) - 146096)) 146097)))))) 146096)))) 365)) 100)))))))) + 2)) 153)))) + 2)) 5)))) + 1)))) else (if (wrap64 (Int.tdiv (wrap64 ((wrap64 (5 * (wrap64 ((wrap64 ((wrap64 (a0 + 719468)) - (wrap64 (146097 * (wrap64 (Int.tdiv (wrap64 (a0 + 719468)) 146097)))))) - (wrap64 ((wrap64 ((wrap64 (365 * (wrap64 (Int.tdiv (wrap64 ((wrap64 ((wrap64 ((wrap64 ((wrap64 (a0 + 719468)) - (wrap64 (146097 * (wrap64 (Int.tdiv (wrap64 (a0 + 719468)) 146097)))))) - (wrap64 (Int.tdiv (wrap64 ((wrap64 (a0 + 719468)) - (wrap64 (146097 * (wrap64 (Int.tdiv (wrap64 (a0 + 719468)) 146097)))))) 1460)))) + (wrap64 (Int.tdiv (wrap64 ((wrap64 (a0 + 719468)) - (wrap64 (146097 * (wrap64 (Int.tdiv (wrap64 (a0 + 719468)) 146097)))))) 36524)))) - (wrap64 (Int.tdiv (wrap64 ((wrap64 (a0 + 719468)) - (wrap64 (146097 * (wrap64 (Int.tdiv (wrap64 (a0 + 719468)) 146097)))))) 146096)))) 365)))) + (wrap64 (Int.tdiv (wrap64 (Int.tdiv (wrap64 ((wrap64 ((wrap64 ((wrap64 ((wrap64 (a0 + 719468)) - (wrap64 (146097 * (wrap64 (Int.tdiv (wrap64 (a0 + 719468)) 146097)))))) - (wrap64 (Int.tdiv (wrap64 ((wrap64 (a0 + 719468)) - (wrap64 (146097 * (wrap64 (Int.tdiv (wrap64 (a0 + 719468)) 146097)))))) 1460)))) + (wrap64 (Int.tdiv (wrap64 ((wrap64 (a0 + 719468)) - (wrap64 (146097 * (wrap64 (Int.tdiv (wrap64 (a0 + 719468)) 146097)))))) 36524)))) - (wrap64 (Int.tdiv (wrap64 ((wrap64 (a0 + 719468)) - (wrap64 (146097 * (wrap64 (Int.tdiv (wrap64 (a0 + 719468)) 146097)))))) 146096)))) 365)) 4)))) - (wrap64 (Int.tdiv (wrap64 (Int.tdiv (wrap64 ((wrap64 ((wrap64 ((wrap64 ((wrap64 (a0 + 719468)) - (wrap64 (146097 * (wrap64 (Int.tdiv (wrap64 (a0 + 719468)) 146097)))))) - (wrap64 (Int.tdiv (wrap64 ((wrap64 (a0 + 719468)) - (wrap64 (146097 * (wrap64 (Int.tdiv (wrap64 (a0 + 719468)) 146097)))))) 1460)))) + (wrap64 (Int.tdiv (wrap64 ((wrap64 (a0 + 719468)) - (wrap64 (146097 * (wrap64 (Int.tdiv (wrap64 (a0 + 719468)) 146097)))))) 36524)))) - (wrap64 (Int.tdiv (wrap64 ((wrap64 (a0 + 719468)) - (wrap64 (146097 * (wrap64 (Int.tdiv (wrap64 (a0 + 719468)) 146097)))))) 146096)))) 365)) 100)))))))) + 2)) 153)) < 10 then (some (wrap64 ((wrap64 (Int.tdiv (wrap64 ((wrap64 ((wrap64 ((wrap64 ((wrap64 (a0 + 719468)) - (wrap64 (146097 * (wrap64 (Int.tdiv (wrap64 (a0 + 719468)) 146097)))))) - (wrap64 (Int.tdiv (wrap64 ((wrap64 (a0 + 719468)) - (wrap64 (146097 * (wrap64 (Int.tdiv (wrap64 (a0 + 719468)) 146097)))))) 1460)))) + (wrap64 (Int.tdiv (wrap64 ((wrap64 (a0 + 719468)) - (wrap64 (146097 * (wrap64 (Int.tdiv (wrap64 (a0 + 719468)) 146097)))))) 36524)))) - (wrap64 (Int.tdiv (wrap64 ((wrap64 (a0 + 719468)) - (wrap64 (146097 * (wrap64 (Int.tdiv (wrap64 (a0 + 719468)) 146097)))))) 146096)))) 365)) + (wrap64 (400 * (wrap64 (Int.tdiv (wrap64 (a0 + 719468)) 146097))))), wrap64 ((wrap64 (Int.tdiv (wrap64 ((wrap64 (5 * (wrap64 ((wrap64 ((wrap64 (a0 + 719468)) - (wrap64 (146097 * (wrap64 (Int.tdiv (wrap64 (a0 + 719468)) 146097)))))) - (wrap64 ((wrap64 ((wrap64 (365 * (wrap64 (Int.tdiv (wrap64 ((wrap64 ((wrap64 ((wrap64 ((wrap64 (a0 + 719468)) - (wrap64 (146097 * (wrap64 (Int.tdiv (wrap64 (a0 + 719468)) 146097)))))) - (wrap64 (Int.tdiv (wrap64 ((wrap64 (a0 + 719468)) - (wrap64 (146097 * (wrap64 (Int.tdiv (wrap64 (a0 + 719468)) 146097)))))) 1460)))) + (wrap64 (Int.tdiv (wrap64 ((wrap64 (a0 + 719468)) - (wrap64 (146097 * (wrap64 (Int.tdiv (wrap64 (a0 + 719468)) 146097)))))) 36524)))) - (wrap64 (Int.tdiv (wrap64 ((wrap64 (a0 + 719468)) - (wrap64 (146097 * (wrap64 (Int.tdiv (wrap64 (a0 + 719468)) 146097)))))) 146096)))) 365)))) + (wrap64 (Int.tdiv (wrap64 (Int.tdiv (wrap64 ((wrap64 ((wrap64 ((wrap64 ((wrap64 (a0 + 719468)) - (wrap64 (146097 * (wrap64 (Int.tdiv (wrap64 (a0 + 719468)) 146097)))))) - (wrap64 (Int.tdiv (wrap64 ((wrap64 (a0 + 719468)) - (wrap64 (146097 * (wrap64 (Int.tdiv (wrap64 (a0 + 719468)) 146097)))))) 1460)))) + (wrap64 (Int.tdiv (wrap64 ((wrap64 (a0 + 719468)) - (wrap64 (146097 * (wrap64 (Int.tdiv (wrap64 (a0 + 719468)) 146097)))))) 36524)))) - (wrap64 (Int.tdiv (wrap64 ((wrap64 (a0 + 719468)) - (wrap64 (146097 * (wrap64 (Int.tdiv (wrap64 (a0 + 719468)) 146097)))))) 146096)))) 365)) 4)))) - (wrap64 (Int.tdiv (wrap64 (Int.tdiv (wrap64 ((wrap64 ((wrap64 ((wrap64 ((wrap64 (a0 + 719468)) - (wrap64 (146097 * (wrap64 (Int.tdiv (wrap64 (a0 + 719468)) 146097)))))) - (wrap64 (Int.tdiv (wrap64 ((wrap64 (a0 + 719468)) - (wrap64 (146097 * (wrap64 (Int.tdiv (wrap64 (a0 + 719468)) 146097)))))) 1460)))) + (wrap64 (Int.tdiv (wrap64 ((wrap64 (a0 + 719468)) - (wrap64 (146097 * (wrap64 (Int.tdiv (wrap64 (a0 + 719468)) 146097)))))) 36524)))) - (wrap64 (Int.tdiv (wrap64 ((wrap64 (a0 + 719468)) - (wrap64 (146097 * (wrap64 (Int.tdiv (wrap64 (a0 + 719468)) 146097)))))) 146096)))) 365)) 100)))))))) + 2)) 153)) + 3), wrap64 ((wrap64 ((wrap64 ((wrap64 ((wrap64 (a0 + 719468)) - (wrap64 (146097 * (wrap64 (Int.tdiv (wrap64 (a0 + 719468)) 146097)))))) - (wrap64 ((wrap64 ((wrap64 (365 * (wrap64 (Int.tdiv (wrap64 ((wrap64 ((wrap64 ((wrap64 ((wrap64 (a0 + 719468)) - (wrap64 (146097 * (wrap64 (Int.tdiv (wrap64 (a0 + 719468)) 146097)))))) - (wrap64 (Int.tdiv (wrap64 ((wrap64 (a0 + 719468)) - (wrap64 (146097 * (wrap64 (Int.tdiv (wrap64 (a0 + 719468)) 146097)))))) 1460)))) + (wrap64 (Int.tdiv (wrap64 ((wrap64 (a0 + 719468)) - (wrap64 (146097 * (wrap64 (Int.tdiv (wrap64 (a0 + 719468)) 146097)))))) 36524)))) - (wrap64 (Int.tdiv (wrap64 ((wrap64 (a0 + 719468)) - (wrap64 (146097 * (wrap64 (Int.tdiv (wrap64 (a0 + 719468)) 146097)))))) 146096)))) 365)))) + (wrap64 (Int.tdiv (wrap64 (Int.tdiv (wrap64 ((wrap64 ((wrap64 ((wrap64 ((wrap64 (a0 + 719468)) - (wrap64 (146097 * (wrap64 (Int.tdiv (wrap64 (a0 + 719468)) 146097)))))) - (wrap64 (Int.tdiv (wrap64 ((wrap64 (a0 + 719468)) - (wrap64 (146097 * (wrap64 (Int.tdiv (wrap64 (a0 + 719468)) 146097)))))) 1460)))) + (wrap64 (Int.tdiv (wrap64 ((wrap64 (a0 + 719468)) - (wrap64 (146097 * (wrap64 (Int.tdiv (wrap64 (a0 + 719468)) 146097)))))) 36524)))) - (wrap64 (Int.tdiv (wrap64 ((wrap64 (a0 + 719468)) - (wrap64 (146097 * (wrap64 (Int.tdiv (wrap64 (a0 + 719468)) 146097)))))) 146096)))) 365)) 4)))) - (wrap64 (Int.tdiv (wrap64 (Int.tdiv (wrap64 ((wrap64 ((wrap64 ((wrap64 ((wrap64 (a0 + 719468)) - (wrap64 (146097 * (wrap64 (Int.tdiv (wrap64 (a0 + 719468)) 146097)))))) - (wrap64 (Int.tdiv (wrap64 ((wrap64 (a0 + 719468)) - (wrap64 (146097 * (wrap64 (Int.tdiv (wrap64 (a0 + 719468)) 146097)))))) 1460)))) + (wrap64 (Int.tdiv (wrap64 ((wrap64 (a0 + 719468)) - (wrap64 (146097 * (wrap64 (Int.tdiv (wrap64 (a0 + 719468)) 146097)))))) 36524)))) - (wrap64 (Int.tdiv (wrap64 ((wrap64 (a0 + 719468)) - (wrap64 (146097 * (wrap64 (Int.tdiv (wrap64 (a0 + 719468)) 146097)))))) 146096)))) 365)) 100)))))) - (wrap64 (Int.tdiv (wrap64 ((wrap64 (153 * (wrap64 (Int.tdiv (wrap64 ((wrap64 (5 * (wrap64 ((wrap64 ((wrap64 (a0 + 719468)) - (wrap64 (146097 * (wrap64 (Int.tdiv (wrap64 (a0 + 719468)) 146097)))))) - (wrap64 ((wrap64 ((wrap64 (365 * (wrap64 (Int.tdiv (wrap64 ((wrap64 ((wrap64 ((wrap64 ((wrap64 (a0 + 719468)) - (wrap64 (146097 * (wrap64 (Int.tdiv (wrap64 (a0 + 719468)) 146097)))))) - (wrap64 (Int.tdiv (wrap64 ((wrap64 (a0 + 719468)) - (wrap64 (146097 * (wrap64 (Int.tdiv (wrap64 (a0 + 719468)) 146097)))))) 1460)))) + (wrap64 (Int.tdiv (wrap64 ((wrap64 (a0 + 719468)) - (wrap64 (146097 * (wrap64 (Int.tdiv (wrap64 (a0 + 719468)) 146097)))))) 36524)))) - (wrap64 (Int.tdiv (wrap64 ((wrap64 (a0 + 719468)) - (wrap64 (146097 * (wrap64 (Int.tdiv (wrap64 (a0 + 719468)) 146097)))))) 146096)))) 365)))) + (wrap64 (Int.tdiv (wrap64 (Int.tdiv (wrap64 ((wrap64 ((wrap64 ((wrap64 ((wrap64 (a0 + 719468)) - (wrap64 (146097 * (wrap64 (Int.tdiv (wrap64 (a0 + 719468)) 146097)))))) - (wrap64 (Int.tdiv (wrap64 ((wrap64 (a0 + 719468)) - (wrap64 (146097 * (wrap64 (Int.tdiv (wrap64 (a0 + 719468)) 146097)))))) 1460)))) + (wrap64 (Int.tdiv (wrap64 ((wrap64 (a0 + 719468)) - (wrap64 (146097 * (wrap64 (Int.tdiv (wrap64 (a0 + 719468)) 146097)))))) 36524)))) - (wrap64 (Int.tdiv (wrap64 ((wrap64 (a0 + 719468)) - (wrap64 (146097 * (wrap64 (Int.tdiv (wrap64 (a0 + 719468)) 146097)))))) 146096)))) 365)) 4)))) - (wrap64 (Int.tdiv (wrap64 (Int.tdiv (wrap64 ((wrap64 ((wrap64 ((wrap64 ((wrap64 (a0 + 719468)) - (wrap64 (146097 * (wrap64 (Int.tdiv (wrap64 (a0 + 719468)) 146097)))))) - (wrap64 (Int.tdiv (wrap64 ((wrap64 (a0 + 719468)) - (wrap64 (146097 * (wrap64 (Int.tdiv (wrap64 (a0 + 719468)) 146097)))))) 1460)))) + (wrap64 (Int.tdiv (wrap64 ((wrap64 (a0 + 719468)) - (wrap64 (146097 * (wrap64 (Int.tdiv (wrap64 (a0 + 719468)) 146097)))))) 36524)))) - (wrap64 (Int.tdiv (wrap64 ((wrap64 (a0 + 719468)) - (wrap64 (146097 * (wrap64 (Int.tdiv (wrap64 (a0 + 719468)) 146097)))))) 146096)))) 365)) 100)))))))) + 2)) 153)))) + 2)) 5)))) + 1))) else (some (wrap64 ((wrap64 ((wrap64 (Int.tdiv (wrap64 ((wrap64 ((wrap64 ((wrap64 ((wrap64 (a0 + 719468)) - (wrap64 (146097 * (wrap64 (Int.tdiv (wrap64 (a0 + 719468)) 146097)))))) - (wrap64 (Int.tdiv (wrap64 ((wrap64 (a0 + 719468)) - (wrap64 (146097 * (wrap64 (Int.tdiv (wrap64 (a0 + 719468)) 146097)))))) 1460)))) + (wrap64 (Int.tdiv (wrap64 ((wrap64 (a0 + 719468)) - (wrap64 (146097 * (wrap64 (Int.tdiv (wrap64 (a0 + 719468)) 146097)))))) 36524)))) - (wrap64 (Int.tdiv (wrap64 ((wrap64 (a0 + 719468)) - (wrap64 (146097 * (wrap64 (Int.tdiv (wrap64 (a0 + 719468)) 146097)))))) 146096)))) 365)) + (wrap64 (400 * (wrap64 (Int.tdiv (wrap64 (a0 + 719468)) 146097)))))) + 1), wrap64 ((wrap64 (Int.tdiv (wrap64 ((wrap64 (5 * (wrap64 ((wrap64 ((wrap64 (a0 + 719468)) - (wrap64 (146097 * (wrap64 (Int.tdiv (wrap64 (a0 + 719468)) 146097)))))) - (wrap64 ((wrap64 ((wrap64 (365 * (wrap64 (Int.tdiv (wrap64 ((wrap64 ((wrap64 ((wrap64 ((wrap64 (a0 + 719468)) - (wrap64 (146097 * (wrap64 (Int.tdiv (wrap64 (a0 + 719468)) 146097)))))) - (wrap64 (Int.tdiv (wrap64 ((wrap64 (a0 + 719468)) - (wrap64 (146097 * (wrap64 (Int.tdiv (wrap64 (a0 + 719468)) 146097)))))) 1460)))) + (wrap64 (Int.tdiv (wrap64 ((wrap64 (a0 + 719468)) - (wrap64 (146097 * (wrap64 (Int.tdiv (wrap64 (a0 + 719468)) 146097)))))) 36524)))) - (wrap64 (Int.tdiv (wrap64 ((wrap64 (a0 + 719468)) - (wrap64 (146097 * (wrap64 (Int.tdiv (wrap64 (a0 + 719468)) 146097)))))) 146096)))) 365)))) + (wrap64 (Int.tdiv (wrap64 (Int.tdiv (wrap64 ((wrap64 ((wrap64 ((wrap64 ((wrap64 (a0 + 719468)) - (wrap64 (146097 * (wrap64 (Int.tdiv (wrap64 (a0 + 719468)) 146097)))))) - (wrap64 (Int.tdiv (wrap64 ((wrap64 (a0 + 719468)) - (wrap64 (146097 * (wrap64 (Int.tdiv (wrap64 (a0 + 719468)) 146097)))))) 1460)))) + (wrap64 (Int.tdiv (wrap64 ((wrap64 (a0 + 719468)) - (wrap64 (146097 * (wrap64 (Int.tdiv (wrap64 (a0 + 719468)) 146097)))))) 36524)))) - (wrap64 (Int.tdiv (wrap64 ((wrap64 (a0 + 719468)) - (wrap64 (146097 * (wrap64 (Int.tdiv (wrap64 (a0 + 719468)) 146097)))))) 146096)))) 365)) 4)))) - (wrap64 (Int.tdiv (wrap64 (Int.tdiv (wrap64 ((wrap64 ((wrap64 ((wrap64 ((wrap64 (a0 + 719468)) - (wrap64 (146097 * (wrap64 (Int.tdiv (wrap64 (a0 + 719468)) 146097)))))) - (wrap64 (Int.tdiv (wrap64 ((wrap64 (a0 + 719468)) - (wrap64 (146097 * (wrap64 (Int.tdiv (wrap64 (a0 + 719468)) 146097)))))) 1460)))) + (wrap64 (Int.tdiv (wrap64 ((wrap64 (a0 + 719468)) - (wrap64 (146097 * (wrap64 (Int.tdiv (wrap64 (a0 + 719468)) 146097)))))) 36524)))) - (wrap64 (Int.tdiv (wrap64 ((wrap64 (a0 + 719468)) - (wrap64 (146097 * (wrap64 (Int.tdiv (wrap64 (a0 + 719468)) 146097)))))) 146096)))) 365)) 100)))))))) + 2)) 153)) - 9), wrap64 ((wrap64 ((wrap64 ((wrap64 ((wrap64 (a0 + 719468)) - (wrap64 (146097 * (wrap64 (Int.tdiv (wrap64 (a0 + 719468)) 146097)))))) - (wrap64 ((wrap64 ((wrap64 (365 * (wrap64 (Int.tdiv (wrap64 ((wrap64 ((wrap64 ((wrap64 ((wrap64 (a0 + 719468)) - (wrap64 (146097 * (wrap64 (Int.tdiv (wrap64 (a0 + 719468)) 146097)))))) - (wrap64 (Int.tdiv (wrap64 ((wrap64 (a0 + 719468)) - (wrap64 (146097 * (wrap64 (Int.tdiv (wrap64 (a0 + 719468)) 146097)))))) 1460)))) + (wrap64 (Int.tdiv (wrap64 ((wrap64 (a0 + 719468)) - (wrap64 (146097 * (wrap64 (Int.tdiv (wrap64 (a0 + 719468)) 146097)))))) 36524)))) - (wrap64 (Int.tdiv (wrap64 ((wrap64 (a0 + 719468)) - (wrap64 (146097 * (wrap64 (Int.tdiv (wrap64 (a0 + 719468)) 146097)))))) 146096)))) 365)))) + (wrap64 (Int.tdiv (wrap64 (Int.tdiv (wrap64 ((wrap64 ((wrap64 ((wrap64 ((wrap64 (a0 + 719468)) - (wrap64 (146097 * (wrap64 (Int.tdiv (wrap64 (a0 + 719468)) 146097)))))) - (wrap64 (Int.tdiv (wrap64 ((wrap64 (a0 + 719468)) - (wrap64 (146097 * (wrap64 (Int.tdiv (wrap64 (a0 + 719468)) 146097)))))) 1460)))) + (wrap64 (Int.tdiv (wrap64 ((wrap64 (a0 + 719468)) - (wrap64 (146097 * (wrap64 (Int.tdiv (wrap64 (a0 + 719468)) 146097)))))) 36524)))) - (wrap64 (Int.tdiv (wrap64 ((wrap64 (a0 + 719468)) - (wrap64 (146097 * (wrap64 (Int.tdiv (wrap64 (a0 + 719468)) 146097)))))) 146096)))) 365)) 4)))) - (wrap64 (Int.tdiv (wrap64 (Int.tdiv (wrap64 ((wrap64 ((wrap64 ((wrap64 ((wrap64 (a0 + 719468)) - (wrap64 (146097 * (wrap64 (Int.tdiv (wrap64 (a0 + 719468)) 146097)))))) - (wrap64 (Int.tdiv (wrap64 ((wrap64 (a0 + 719468)) - (wrap64 (146097 * (wrap64 (Int.tdiv (wrap64 (a0 + 719468)) 146097)))))) 1460)))) + (wrap64 (Int.tdiv (wrap64 ((wrap64 (a0 + 719468)) - (wrap64 (146097 * (wrap64 (Int.tdiv (wrap64 (a0 + 719468)) 146097)))))) 36524)))) - (wrap64 (Int.tdiv (wrap64 ((wrap64 (a0 + 719468)) - (wrap64 (146097 * (wrap64 (Int.tdiv (wrap64 (a0 + 719468)) 146097)))))) 146096)))) 365)) 100)))))) - (wrap64 (Int.tdiv (wrap64 ((wrap64 (153 * (wrap64 (Int.tdiv (wrap64 ((wrap64 (5 * (wrap64 ((wrap64 ((wrap64 (a0 + 719468)) - (wrap64 (146097 * (wrap64 (Int.tdiv (wrap64 (a0 + 719468)) 146097)))))) - (wrap64 ((wrap64 ((wrap64 (365 * (wrap64 (Int.tdiv (wrap64 ((wrap64 ((wrap64 ((wrap64 ((wrap64 (a0 + 719468)) - (wrap64 (146097 * (wrap64 (Int.tdiv (wrap64 (a0 + 719468)) 146097)))))) - (wrap64 (Int.tdiv (wrap64 ((wrap64 (a0 + 719468)) - (wrap64 (146097 * (wrap64 (Int.tdiv (wrap64 (a0 + 719468)) 146097)))))) 1460)))) + (wrap64 (Int.tdiv (wrap64 ((wrap64 (a0 + 719468)) - (wrap64 (146097 * (wrap64 (Int.tdiv (wrap64 (a0 + 719468)) 146097)))))) 36524)))) - (wrap64 (Int.tdiv (wrap64 ((wrap64 (a0 + 719468)) - (wrap64 (146097 * (wrap64 (Int.tdiv (wrap64 (a0 + 719468)) 146097)))))) 146096)))) 365)))) + (wrap64 (Int.tdiv (wrap64 (Int.tdiv (wrap64 ((wrap64 ((wrap64 ((wrap64 ((wrap64 (a0 + 719468)) - (wrap64 (146097 * (wrap64 (Int.tdiv (wrap64 (a0 + 719468)) 146097)))))) - (wrap64 (Int.tdiv (wrap64 ((wrap64 (a0 + 719468)) - (wrap64 (146097 * (wrap64 (Int.tdiv (wrap64 (a0 + 719468)) 146097)))))) 1460)))) + (wrap64 (Int.tdiv (wrap64 ((wrap64 (a0 + 719468)) - (wrap64 (146097 * (wrap64 (Int.tdiv (wrap64 (a0 + 719468)) 146097)))))) 36524)))) - (wrap64 (Int.tdiv (wrap64 ((wrap64 (a0 + 719468)) - (wrap64 (146097 * (wrap64 (Int.tdiv (wrap64 (a0 + 719468)) 146097)))))) 146096)))) 365)) 4)))) - (wrap64 (Int.tdiv (wrap64 (Int.tdiv (wrap64 ((wrap64 ((wrap64 ((wrap64 ((wrap64 (a0 + 719468)) - (wrap64 (146097 * (wrap64 (Int.tdiv (wrap64 (a0 + 719468)) 146097)))))) - (wrap64 (Int.tdiv (wrap64 ((wrap64 (a0 + 719468)) - (wrap64 (146097 * (wrap64 (Int.tdiv (wrap64 (a0 + 719468)) 146097)))))) 1460)))) + (wrap64 (Int.tdiv (wrap64 ((wrap64 (a0 + 719468)) - (wrap64 (146097 * (wrap64 (Int.tdiv (wrap64 (a0 + 719468)) 146097)))))) 36524)))) - (wrap64 (Int.tdiv (wrap64 ((wrap64 (a0 + 719468)) - (wrap64 (146097 * (wrap64 (Int.tdiv (wrap64 (a0 + 719468)) 146097)))))) 146096)))) 365)) 100)))))))) + 2)) 153)))) + 2)) 5)))) + 1))))) = some (r1, r2, r3) := h
  clear h
  by_cases c2 : (wrap64 (a0 + 719468)) < 0
  · rw [if_pos c2] at H
    have c2b0 : decide ((wrap64 (a0 + 719468)) < 0) = true := decide_eq_true c2
    clear c2
    by_cases c3 : (wrap64 (Int.tdiv (wrap64 ((wrap64 (5 * (wrap64 ((wrap64 ((wrap64 (a0 + 719468)) - (wrap64 (146097 * (wrap64 (Int.tdiv (wrap64 ((wrap64 (a0 + 719468)) - 146096)) 146097)))))) - (wrap64 ((wrap64 ((wrap64 (365 * (wrap64 (Int.tdiv (wrap64 ((wrap64 ((wrap64 ((wrap64 ((wrap64 (a0 + 719468)) - (wrap64 (146097 * (wrap64 (Int.tdiv (wrap64 ((wrap64 (a0 + 719468)) - 146096)) 146097)))))) - (wrap64 (Int.tdiv (wrap64 ((wrap64 (a0 + 719468)) - (wrap64 (146097 * (wrap64 (Int.tdiv (wrap64 ((wrap64 (a0 + 719468)) - 146096)) 146097)))))) 1460)))) + (wrap64 (Int.tdiv (wrap64 ((wrap64 (a0 + 719468)) - (wrap64 (146097 * (wrap64 (Int.tdiv (wrap64 ((wrap64 (a0 + 719468)) - 146096)) 146097)))))) 36524)))) - (wrap64 (Int.tdiv (wrap64 ((wrap64 (a0 + 719468)) - (wrap64 (146097 * (wrap64 (Int.tdiv (wrap64 ((wrap64 (a0 + 719468)) - 146096)) 146097)))))) 146096)))) 365)))) + (wrap64 (Int.tdiv (wrap64 (Int.tdiv (wrap64 ((wrap64 ((wrap64 ((wrap64 ((wrap64 (a0 + 719468)) - (wrap64 (146097 * (wrap64 (Int.tdiv (wrap64 ((wrap64 (a0 + 719468)) - 146096)) 146097)))))) - (wrap64 (Int.tdiv (wrap64 ((wrap64 (a0 + 719468)) - (wrap64 (146097 * (wrap64 (Int.tdiv (wrap64 ((wrap64 (a0 + 719468)) - 146096)) 146097)))))) 1460)))) + (wrap64 (Int.tdiv (wrap64 ((wrap64 (a0 + 719468)) - (wrap64 (146097 * (wrap64 (Int.tdiv (wrap64 ((wrap64 (a0 + 719468)) - 146096)) 146097)))))) 36524)))) - (wrap64 (Int.tdiv (wrap64 ((wrap64 (a0 + 719468)) - (wrap64 (146097 * (wrap64 (Int.tdiv (wrap64 ((wrap64 (a0 + 719468)) - 146096)) 146097)))))) 146096)))) 365)) 4)))) - (wrap64 (Int.tdiv (wrap64 (Int.tdiv (wrap64 ((wrap64 ((wrap64 ((wrap64 ((wrap64 (a0 + 719468)) - (wrap64 (146097 * (wrap64 (Int.tdiv (wrap64 ((wrap64 (a0 + 719468)) - 146096)) 146097)))))) - (wrap64 (Int.tdiv (wrap64 ((wrap64 (a0 + 719468)) - (wrap64 (146097 * (wrap64 (Int.tdiv (wrap64 ((wrap64 (a0 + 719468)) - 146096)) 146097)))))) 1460)))) + (wrap64 (Int.tdiv (wrap64 ((wrap64 (a0 + 719468)) - (wrap64 (146097 * (wrap64 (Int.tdiv (wrap64 ((wrap64 (a0 + 719468)) - 146096)) 146097)))))) 36524)))) - (wrap64 (Int.tdiv (wrap64 ((wrap64 (a0 + 719468)) - (wrap64 (146097 * (wrap64 (Int.tdiv (wrap64 ((wrap64 (a0 + 719468)) - 146096)) 146097)))))) 146096)))) 365)) 100)))))))) + 2)) 153)) < 10
    · rw [if_pos c3] at H
      have c3b0 : decide ((wrap64 (Int.tdiv (wrap64 ((wrap64 (5 * (wrap64 ((wrap64 ((wrap64 (a0 + 719468)) - (wrap64 (146097 * (wrap64 (Int.tdiv (wrap64 ((wrap64 (a0 + 719468)) - 146096)) 146097)))))) - (wrap64 ((wrap64 ((wrap64 (365 * (wrap64 (Int.tdiv (wrap64 ((wrap64 ((wrap64 ((wrap64 ((wrap64 (a0 + 719468)) - (wrap64 (146097 * (wrap64 (Int.tdiv (wrap64 ((wrap64 (a0 + 719468)) - 146096)) 146097)))))) - (wrap64 (Int.tdiv (wrap64 ((wrap64 (a0 + 719468)) - (wrap64 (146097 * (wrap64 (Int.tdiv (wrap64 ((wrap64 (a0 + 719468)) - 146096)) 146097)))))) 1460)))) + (wrap64 (Int.tdiv (wrap64 ((wrap64 (a0 + 719468)) - (wrap64 (146097 * (wrap64 (Int.tdiv (wrap64 ((wrap64 (a0 + 719468)) - 146096)) 146097)))))) 36524)))) - (wrap64 (Int.tdiv (wrap64 ((wrap64 (a0 + 719468)) - (wrap64 (146097 * (wrap64 (Int.tdiv (wrap64 ((wrap64 (a0 + 719468)) - 146096)) 146097)))))) 146096)))) 365)))) + (wrap64 (Int.tdiv (wrap64 (Int.tdiv (wrap64 ((wrap64 ((wrap64 ((wrap64 ((wrap64 (a0 + 719468)) - (wrap64 (146097 * (wrap64 (Int.tdiv (wrap64 ((wrap64 (a0 + 719468)) - 146096)) 146097)))))) - (wrap64 (Int.tdiv (wrap64 ((wrap64 (a0 + 719468)) - (wrap64 (146097 * (wrap64 (Int.tdiv (wrap64 ((wrap64 (a0 + 719468)) - 146096)) 146097)))))) 1460)))) + (wrap64 (Int.tdiv (wrap64 ((wrap64 (a0 + 719468)) - (wrap64 (146097 * (wrap64 (Int.tdiv (wrap64 ((wrap64 (a0 + 719468)) - 146096)) 146097)))))) 36524)))) - (wrap64 (Int.tdiv (wrap64 ((wrap64 (a0 + 719468)) - (wrap64 (146097 * (wrap64 (Int.tdiv (wrap64 ((wrap64 (a0 + 719468)) - 146096)) 146097)))))) 146096)))) 365)) 4)))) - (wrap64 (Int.tdiv (wrap64 (Int.tdiv (wrap64 ((wrap64 ((wrap64 ((wrap64 ((wrap64 (a0 + 719468)) - (wrap64 (146097 * (wrap64 (Int.tdiv (wrap64 ((wrap64 (a0 + 719468)) - 146096)) 146097)))))) - (wrap64 (Int.tdiv (wrap64 ((wrap64 (a0 + 719468)) - (wrap64 (146097 * (wrap64 (Int.tdiv (wrap64 ((wrap64 (a0 + 719468)) - 146096)) 146097)))))) 1460)))) + (wrap64 (Int.tdiv (wrap64 ((wrap64 (a0 + 719468)) - (wrap64 (146097 * (wrap64 (Int.tdiv (wrap64 ((wrap64 (a0 + 719468)) - 146096)) 146097)))))) 36524)))) - (wrap64 (Int.tdiv (wrap64 ((wrap64 (a0 + 719468)) - (wrap64 (146097 * (wrap64 (Int.tdiv (wrap64 ((wrap64 (a0 + 719468)) - 146096)) 146097)))))) 146096)))) 365)) 100)))))))) + 2)) 153)) < 10) = true := decide_eq_true c3
      clear c3
      simp only [Option.some.injEq, Prod.mk.injEq] at H
      obtain ⟨rfl, rfl, rfl⟩ := H
      go_enter Try.func50, Try.ntmps50
      go_wp2
      go_ret3
      exact ⟨by first | rfl | (simp; done) | (simp [*]; done), by repeat (first | exact Drawn0.refl _ | apply Drawn0.step)⟩
    · rw [if_neg c3] at H
      have c3b0 : decide ((wrap64 (Int.tdiv (wrap64 ((wrap64 (5 * (wrap64 ((wrap64 ((wrap64 (a0 + 719468)) - (wrap64 (146097 * (wrap64 (Int.tdiv (wrap64 ((wrap64 (a0 + 719468)) - 146096)) 146097)))))) - (wrap64 ((wrap64 ((wrap64 (365 * (wrap64 (Int.tdiv (wrap64 ((wrap64 ((wrap64 ((wrap64 ((wrap64 (a0 + 719468)) - (wrap64 (146097 * (wrap64 (Int.tdiv (wrap64 ((wrap64 (a0 + 719468)) - 146096)) 146097)))))) - (wrap64 (Int.tdiv (wrap64 ((wrap64 (a0 + 719468)) - (wrap64 (146097 * (wrap64 (Int.tdiv (wrap64 ((wrap64 (a0 + 719468)) - 146096)) 146097)))))) 1460)))) + (wrap64 (Int.tdiv (wrap64 ((wrap64 (a0 + 719468)) - (wrap64 (146097 * (wrap64 (Int.tdiv (wrap64 ((wrap64 (a0 + 719468)) - 146096)) 146097)))))) 36524)))) - (wrap64 (Int.tdiv (wrap64 ((wrap64 (a0 + 719468)) - (wrap64 (146097 * (wrap64 (Int.tdiv (wrap64 ((wrap64 (a0 + 719468)) - 146096)) 146097)))))) 146096)))) 365)))) + (wrap64 (Int.tdiv (wrap64 (Int.tdiv (wrap64 ((wrap64 ((wrap64 ((wrap64 ((wrap64 (a0 + 719468)) - (wrap64 (146097 * (wrap64 (Int.tdiv (wrap64 ((wrap64 (a0 + 719468)) - 146096)) 146097)))))) - (wrap64 (Int.tdiv (wrap64 ((wrap64 (a0 + 719468)) - (wrap64 (146097 * (wrap64 (Int.tdiv (wrap64 ((wrap64 (a0 + 719468)) - 146096)) 146097)))))) 1460)))) + (wrap64 (Int.tdiv (wrap64 ((wrap64 (a0 + 719468)) - (wrap64 (146097 * (wrap64 (Int.tdiv (wrap64 ((wrap64 (a0 + 719468)) - 146096)) 146097)))))) 36524)))) - (wrap64 (Int.tdiv (wrap64 ((wrap64 (a0 + 719468)) - (wrap64 (146097 * (wrap64 (Int.tdiv (wrap64 ((wrap64 (a0 + 719468)) - 146096)) 146097)))))) 146096)))) 365)) 4)))) - (wrap64 (Int.tdiv (wrap64 (Int.tdiv (wrap64 ((wrap64 ((wrap64 ((wrap64 ((wrap64 (a0 + 719468)) - (wrap64 (146097 * (wrap64 (Int.tdiv (wrap64 ((wrap64 (a0 + 719468)) - 146096)) 146097)))))) - (wrap64 (Int.tdiv (wrap64 ((wrap64 (a0 + 719468)) - (wrap64 (146097 * (wrap64 (Int.tdiv (wrap64 ((wrap64 (a0 + 719468)) - 146096)) 146097)))))) 1460)))) + (wrap64 (Int.tdiv (wrap64 ((wrap64 (a0 + 719468)) - (wrap64 (146097 * (wrap64 (Int.tdiv (wrap64 ((wrap64 (a0 + 719468)) - 146096)) 146097)))))) 36524)))) - (wrap64 (Int.tdiv (wrap64 ((wrap64 (a0 + 719468)) - (wrap64 (146097 * (wrap64 (Int.tdiv (wrap64 ((wrap64 (a0 + 719468)) - 146096)) 146097)))))) 146096)))) 365)) 100)))))))) + 2)) 153)) < 10) = false := decide_eq_false c3
      clear c3
      simp only [Option.some.injEq, Prod.mk.injEq] at H
      obtain ⟨rfl, rfl, rfl⟩ := H
      go_enter Try.func50, Try.ntmps50
      go_wp2
      go_ret3
      exact ⟨by first | rfl | (simp; done) | (simp [*]; done), by repeat (first | exact Drawn0.refl _ | apply Drawn0.step)⟩
  · rw [if_neg c2] at H
    have c2b0 : decide ((wrap64 (a0 + 719468)) < 0) = false := decide_eq_false c2
    clear c2
    by_cases c4 : (wrap64 (Int.tdiv (wrap64 ((wrap64 (5 * (wrap64 ((wrap64 ((wrap64 (a0 + 719468)) - (wrap64 (146097 * (wrap64 (Int.tdiv (wrap64 (a0 + 719468)) 146097)))))) - (wrap64 ((wrap64 ((wrap64 (365 * (wrap64 (Int.tdiv (wrap64 ((wrap64 ((wrap64 ((wrap64 ((wrap64 (a0 + 719468)) - (wrap64 (146097 * (wrap64 (Int.tdiv (wrap64 (a0 + 719468)) 146097)))))) - (wrap64 (Int.tdiv (wrap64 ((wrap64 (a0 + 719468)) - (wrap64 (146097 * (wrap64 (Int.tdiv (wrap64 (a0 + 719468)) 146097)))))) 1460)))) + (wrap64 (Int.tdiv (wrap64 ((wrap64 (a0 + 719468)) - (wrap64 (146097 * (wrap64 (Int.tdiv (wrap64 (a0 + 719468)) 146097)))))) 36524)))) - (wrap64 (Int.tdiv (wrap64 ((wrap64 (a0 + 719468)) - (wrap64 (146097 * (wrap64 (Int.tdiv (wrap64 (a0 + 719468)) 146097)))))) 146096)))) 365)))) + (wrap64 (Int.tdiv (wrap64 (Int.tdiv (wrap64 ((wrap64 ((wrap64 ((wrap64 ((wrap64 (a0 + 719468)) - (wrap64 (146097 * (wrap64 (Int.tdiv (wrap64 (a0 + 719468)) 146097)))))) - (wrap64 (Int.tdiv (wrap64 ((wrap64 (a0 + 719468)) - (wrap64 (146097 * (wrap64 (Int.tdiv (wrap64 (a0 + 719468)) 146097)))))) 1460)))) + (wrap64 (Int.tdiv (wrap64 ((wrap64 (a0 + 719468)) - (wrap64 (146097 * (wrap64 (Int.tdiv (wrap64 (a0 + 719468)) 146097)))))) 36524)))) - (wrap64 (Int.tdiv (wrap64 ((wrap64 (a0 + 719468)) - (wrap64 (146097 * (wrap64 (Int.tdiv (wrap64 (a0 + 719468)) 146097)))))) 146096)))) 365)) 4)))) - (wrap64 (Int.tdiv (wrap64 (Int.tdiv (wrap64 ((wrap64 ((wrap64 ((wrap64 ((wrap64 (a0 + 719468)) - (wrap64 (146097 * (wrap64 (Int.tdiv (wrap64 (a0 + 719468)) 146097)))))) - (wrap64 (Int.tdiv (wrap64 ((wrap64 (a0 + 719468)) - (wrap64 (146097 * (wrap64 (Int.tdiv (wrap64 (a0 + 719468)) 146097)))))) 1460)))) + (wrap64 (Int.tdiv (wrap64 ((wrap64 (a0 + 719468)) - (wrap64 (146097 * (wrap64 (Int.tdiv (wrap64 (a0 + 719468)) 146097)))))) 36524)))) - (wrap64 (Int.tdiv (wrap64 ((wrap64 (a0 + 719468)) - (wrap64 (146097 * (wrap64 (Int.tdiv (wrap64 (a0 + 719468)) 146097)))))) 146096)))) 365)) 100)))))))) + 2)) 153)) < 10
    · rw [if_pos c4] at H
      have c4b0 : decide ((wrap64 (Int.tdiv (wrap64 ((wrap64 (5 * (wrap64 ((wrap64 ((wrap64 (a0 + 719468)) - (wrap64 (146097 * (wrap64 (Int.tdiv (wrap64 (a0 + 719468)) 146097)))))) - (wrap64 ((wrap64 ((wrap64 (365 * (wrap64 (Int.tdiv (wrap64 ((wrap64 ((wrap64 ((wrap64 ((wrap64 (a0 + 719468)) - (wrap64 (146097 * (wrap64 (Int.tdiv (wrap64 (a0 + 719468)) 146097)))))) - (wrap64 (Int.tdiv (wrap64 ((wrap64 (a0 + 719468)) - (wrap64 (146097 * (wrap64 (Int.tdiv (wrap64 (a0 + 719468)) 146097)))))) 1460)))) + (wrap64 (Int.tdiv (wrap64 ((wrap64 (a0 + 719468)) - (wrap64 (146097 * (wrap64 (Int.tdiv (wrap64 (a0 + 719468)) 146097)))))) 36524)))) - (wrap64 (Int.tdiv (wrap64 ((wrap64 (a0 + 719468)) - (wrap64 (146097 * (wrap64 (Int.tdiv (wrap64 (a0 + 719468)) 146097)))))) 146096)))) 365)))) + (wrap64 (Int.tdiv (wrap64 (Int.tdiv (wrap64 ((wrap64 ((wrap64 ((wrap64 ((wrap64 (a0 + 719468)) - (wrap64 (146097 * (wrap64 (Int.tdiv (wrap64 (a0 + 719468)) 146097)))))) - (wrap64 (Int.tdiv (wrap64 ((wrap64 (a0 + 719468)) - (wrap64 (146097 * (wrap64 (Int.tdiv (wrap64 (a0 + 719468)) 146097)))))) 1460)))) + (wrap64 (Int.tdiv (wrap64 ((wrap64 (a0 + 719468)) - (wrap64 (146097 * (wrap64 (Int.tdiv (wrap64 (a0 + 719468)) 146097)))))) 36524)))) - (wrap64 (Int.tdiv (wrap64 ((wrap64 (a0 + 719468)) - (wrap64 (146097 * (wrap64 (Int.tdiv (wrap64 (a0 + 719468)) 146097)))))) 146096)))) 365)) 4)))) - (wrap64 (Int.tdiv (wrap64 (Int.tdiv (wrap64 ((wrap64 ((wrap64 ((wrap64 ((wrap64 (a0 + 719468)) - (wrap64 (146097 * (wrap64 (Int.tdiv (wrap64 (a0 + 719468)) 146097)))))) - (wrap64 (Int.tdiv (wrap64 ((wrap64 (a0 + 719468)) - (wrap64 (146097 * (wrap64 (Int.tdiv (wrap64 (a0 + 719468)) 146097)))))) 1460)))) + (wrap64 (Int.tdiv (wrap64 ((wrap64 (a0 + 719468)) - (wrap64 (146097 * (wrap64 (Int.tdiv (wrap64 (a0 + 719468)) 146097)))))) 36524)))) - (wrap64 (Int.tdiv (wrap64 ((wrap64 (a0 + 719468)) - (wrap64 (146097 * (wrap64 (Int.tdiv (wrap64 (a0 + 719468)) 146097)))))) 146096)))) 365)) 100)))))))) + 2)) 153)) < 10) = true := decide_eq_true c4
      clear c4
      simp only [Option.some.injEq, Prod.mk.injEq] at H
      obtain ⟨rfl, rfl, rfl⟩ := H
      go_enter Try.func50, Try.ntmps50
      go_wp2
      go_ret3
      exact ⟨by first | rfl | (simp; done) | (simp [*]; done), by repeat (first | exact Drawn0.refl _ | apply Drawn0.step)⟩
    · rw [if_neg c4] at H
      have c4b0 : decide ((wrap64 (Int.tdiv (wrap64 ((wrap64 (5 * (wrap64 ((wrap64 ((wrap64 (a0 + 719468)) - (wrap64 (146097 * (wrap64 (Int.tdiv (wrap64 (a0 + 719468)) 146097)))))) - (wrap64 ((wrap64 ((wrap64 (365 * (wrap64 (Int.tdiv (wrap64 ((wrap64 ((wrap64 ((wrap64 ((wrap64 (a0 + 719468)) - (wrap64 (146097 * (wrap64 (Int.tdiv (wrap64 (a0 + 719468)) 146097)))))) - (wrap64 (Int.tdiv (wrap64 ((wrap64 (a0 + 719468)) - (wrap64 (146097 * (wrap64 (Int.tdiv (wrap64 (a0 + 719468)) 146097)))))) 1460)))) + (wrap64 (Int.tdiv (wrap64 ((wrap64 (a0 + 719468)) - (wrap64 (146097 * (wrap64 (Int.tdiv (wrap64 (a0 + 719468)) 146097)))))) 36524)))) - (wrap64 (Int.tdiv (wrap64 ((wrap64 (a0 + 719468)) - (wrap64 (146097 * (wrap64 (Int.tdiv (wrap64 (a0 + 719468)) 146097)))))) 146096)))) 365)))) + (wrap64 (Int.tdiv (wrap64 (Int.tdiv (wrap64 ((wrap64 ((wrap64 ((wrap64 ((wrap64 (a0 + 719468)) - (wrap64 (146097 * (wrap64 (Int.tdiv (wrap64 (a0 + 719468)) 146097)))))) - (wrap64 (Int.tdiv (wrap64 ((wrap64 (a0 + 719468)) - (wrap64 (146097 * (wrap64 (Int.tdiv (wrap64 (a0 + 719468)) 146097)))))) 1460)))) + (wrap64 (Int.tdiv (wrap64 ((wrap64 (a0 + 719468)) - (wrap64 (146097 * (wrap64 (Int.tdiv (wrap64 (a0 + 719468)) 146097)))))) 36524)))) - (wrap64 (Int.tdiv (wrap64 ((wrap64 (a0 + 719468)) - (wrap64 (146097 * (wrap64 (Int.tdiv (wrap64 (a0 + 719468)) 146097)))))) 146096)))) 365)) 4)))) - (wrap64 (Int.tdiv (wrap64 (Int.tdiv (wrap64 ((wrap64 ((wrap64 ((wrap64 ((wrap64 (a0 + 719468)) - (wrap64 (146097 * (wrap64 (Int.tdiv (wrap64 (a0 + 719468)) 146097)))))) - (wrap64 (Int.tdiv (wrap64 ((wrap64 (a0 + 719468)) - (wrap64 (146097 * (wrap64 (Int.tdiv (wrap64 (a0 + 719468)) 146097)))))) 1460)))) + (wrap64 (Int.tdiv (wrap64 ((wrap64 (a0 + 719468)) - (wrap64 (146097 * (wrap64 (Int.tdiv (wrap64 (a0 + 719468)) 146097)))))) 36524)))) - (wrap64 (Int.tdiv (wrap64 ((wrap64 (a0 + 719468)) - (wrap64 (146097 * (wrap64 (Int.tdiv (wrap64 (a0 + 719468)) 146097)))))) 146096)))) 365)) 100)))))))) + 2)) 153)) < 10) = false := decide_eq_false c4
      clear c4
      simp only [Option.some.injEq, Prod.mk.injEq] at H
      obtain ⟨rfl, rfl, rfl⟩ := H
      go_enter Try.func50, Try.ntmps50
      go_wp2
      go_ret3
      exact ⟨by first | rfl | (simp; done) | (simp [*]; done), by repeat (first | exact Drawn0.refl _ | apply Drawn0.step)⟩

/-! ### list_Day: function 41 -/
def list_Day.j0 : Nat → Int → Bool → Option (Int × Int × Int × Int)
  | 0, _, _ => none
  | k + 1, x0, x15 => if x15 = true then (some (0, 0, 0, 4)) else (if (Int.tmod x0 86400) < 0 then ((list_date.f (wrap64 ((wrap64 (Int.tdiv x0 86400)) - 1))).bind fun bt101 => (some (bt101.1, bt101.2.1, bt101.2.2, 0))) else ((list_date.f (wrap64 (Int.tdiv x0 86400))).bind fun bt104 => (some (bt104.1, bt104.2.1, bt104.2.2, 0))))
def list_Day.f (k : Nat) (a0 : Int) : Option (Int × Int × Int × Int) := if a0 < (-1099511627776) then (list_Day.j0 k a0 true) else (list_Day.j0 k a0 (decide (a0 > 1099511627776)))
theorem list_Day.mono_l : ∀ k, (∀ y0 y1, LeO (list_Day.j0 k y0 y1) (list_Day.j0 (k + 1) y0 y1))
  | 0 => fun _ _ r h => by simp [list_Day.j0] at h
  | k + 1 => by
    have ih0 := list_Day.mono_l k
    · intro y0 y1
      unfold list_Day.j0
      repeat' first
      | (with_reducible exact ih0 _ _)
      | (with_reducible exact LeO.refl _)
      | (with_reducible exact LeO.none _)
      | (with_reducible refine LeO.ite ?_ ?_)
      | (with_reducible refine LeO.bind ?_ (fun _ => ?_))
      | exact ih0 _ _
      | exact LeO.none _
      | refine LeO.ite ?_ ?_
      | refine LeO.bind ?_ (fun _ => ?_)
theorem list_Day.mono : ∀ a0 k, LeO (list_Day.f k a0) (list_Day.f (k + 1) a0) := by
  intro a0 k
  have ih0 := list_Day.mono_l k
  unfold list_Day.f
  repeat' first
      | (with_reducible exact ih0 _ _)
      | (with_reducible exact LeO.refl _)
      | (with_reducible exact LeO.none _)
      | (with_reducible refine LeO.ite ?_ ?_)
      | (with_reducible refine LeO.bind ?_ (fun _ => ?_))
      | exact ih0 _ _
      | exact LeO.none _
      | refine LeO.ite ?_ ?_
      | refine LeO.bind ?_ (fun _ => ?_)
set_option maxHeartbeats 8000000 in
set_option maxRecDepth 100000 in
theorem list_Day.calls (k : Nat) (a0 : Int) (r1 : Int) (r2 : Int) (r3 : Int) (r4 : Int) (w : World) (h : list_Day.f k a0 = some (r1, r2, r3, r4)) :
    Calls Try.prog 41 #[.int .i64 a0] w fun e w' => e = .returned (.tuple #[.int .i64 r1, .int .i64 r2, .int .i64 r3, .int .i64 r4]) ∧ Drawn0 w w' := by
  have H : (if a0 < (-1099511627776) then (list_Day.j0 k a0 true) else (list_Day.j0 k a0 (decide (a0 > 1099511627776)))) = some (r1, r2, r3, r4) := h
  clear h
  have HC2 := Aside0.mk H
  clear H
  go_enter Try.func41, Try.ntmps41
  go_upto_region 1 with (fail)
  go_cut [15] (fun v15 wc => ∃ (kq : Nat) (x15_1 : Bool), v15 = .bool x15_1 ∧ Aside0 (list_Day.j0 kq a0 x15_1 = some (r1, r2, r3, r4)) ∧ Aside0 (kq ≤ k) ∧ Drawn0 w wc)
  case first =>
    have H := HC2.out
    clear HC2
    by_cases c3 : a0 < (-1099511627776)
    · rw [if_pos c3] at H
      have c3b0 : decide (a0 < (-1099511627776)) = true := decide_eq_true c3
      clear c3
      (first | rw [c3b0] | (simp only [i64_w, i32_w]; rw [c3b0]) | skip)
      have H' := Aside0.mk H
      clear H
      go_wp2
      go_meet
      case rel => exact ⟨_, (true), (by first | rfl | (simp; done) | (simp [*]; done)), H', ⟨by first | omega | exact Nat.le_refl _⟩, by repeat (first | exact Drawn0.refl _ | apply Drawn0.step)⟩
    · rw [if_neg c3] at H
      have c3b0 : decide (a0 < (-1099511627776)) = false := decide_eq_false c3
      clear c3
      (first | rw [c3b0] | (simp only [i64_w, i32_w]; rw [c3b0]) | skip)
      have H' := Aside0.mk H
      clear H
      go_wp2
      go_meet
      case rel => exact ⟨_, (decide (a0 > 1099511627776)), (by first | rfl | (simp; done) | (simp [*]; done)), H', ⟨by first | omega | exact Nat.le_refl _⟩, by repeat (first | exact Drawn0.refl _ | apply Drawn0.step)⟩
  case rest =>
    clear HC2
    try clear p2
    try clear c3
    try clear c3b0
    obtain ⟨kq, x15_1, rfl, HA, HJ1, ⟨mc1, rfl⟩⟩ := hcut
    cases kq with
    | zero => exact absurd HA.out (by simp [list_Day.j0])
    | succ kj1 =>
      have H := HA.out
      clear HA
      simp only [list_Day.j0] at H
      by_cases c4 : x15_1 = true
      · subst c4
        have H1 : (some (0, 0, 0, 4)) = some (r1, r2, r3, r4) := by rw [if_pos rfl] at H; exact H
        clear H
        have H := H1
        clear H1
        simp only [Option.some.injEq, Prod.mk.injEq] at H
        obtain ⟨rfl, rfl, rfl, rfl⟩ := H
        go_wp2
        refine bodyPost_ret (results_list (rs := [.tmp 2, .tmp 3, .tmp 4, .tmp 5]) rfl (by simp) (.tmp (.tmp (.tmp (.tmp .nil))))) rfl ?_
        exact ⟨by first | rfl | (simp; done) | (simp [*]; done), by repeat (first | exact Drawn0.refl _ | apply Drawn0.step)⟩
      · replace c4 := Bool.eq_false_iff.mpr c4
        subst c4
        have H1 : (if (Int.tmod a0 86400) < 0 then ((list_date.f (wrap64 ((wrap64 (Int.tdiv a0 86400)) - 1))).bind fun bt101 => (some (bt101.1, bt101.2.1, bt101.2.2, 0))) else ((list_date.f (wrap64 (Int.tdiv a0 86400))).bind fun bt104 => (some (bt104.1, bt104.2.1, bt104.2.2, 0)))) = some (r1, r2, r3, r4) := by rw [if_neg (show ¬ (false = true) by decide)] at H; exact H
        clear H
        have H := H1
        clear H1
        by_cases c5 : (Int.tmod a0 86400) < 0
        · rw [if_pos c5] at H
          have c5b0 : decide ((Int.tmod a0 86400) < 0) = true := decide_eq_true c5
          clear c5
          replace H := Option.bind_eq_some_iff.mp H
          obtain ⟨⟨t101, t102, t103⟩, A60, H⟩ := H
          replace H : (some (t101, t102, t103, 0)) = some (r1, r2, r3, r4) := H
          have A6 := Aside0.mk A60
          clear A60
          simp only [Option.some.injEq, Prod.mk.injEq] at H
          obtain ⟨rfl, rfl, rfl, rfl⟩ := H
          go_wp2_with (first | ((with_reducible refine gate_callee (f := 50) rfl ?_); refine goesL_ (some 25) rfl rfl Try.func50 (by kernel_rfl) rfl #[.int .i64 (wrap64 ((wrap64 (Int.tdiv a0 86400)) - 1))] rfl (by (try simp only [List.map_toArray, List.map_cons, List.map_nil]); first | done | rfl | (simp only [List.length_drop, List.length_take]; rfl)) ?_; (with_reducible refine (list_date.calls (wrap64 ((wrap64 (Int.tdiv a0 86400)) - 1)) t101 t102 t103 _ A6.out).mono ?_); rintro e w' ⟨rfl, ⟨nd, rfl⟩⟩; refine ⟨_, rfl, ?_⟩))
          refine bodyPost_ret (results_list (rs := [.tmp 2, .tmp 3, .tmp 4, .tmp 5]) rfl (by simp) (.tmp (.tmp (.tmp (.tmp .nil))))) rfl ?_
          exact ⟨by first | rfl | (simp; done) | (simp [*]; done), by repeat (first | exact Drawn0.refl _ | apply Drawn0.step)⟩
        · rw [if_neg c5] at H
          have c5b0 : decide ((Int.tmod a0 86400) < 0) = false := decide_eq_false c5
          clear c5
          replace H := Option.bind_eq_some_iff.mp H
          obtain ⟨⟨t104, t105, t106⟩, A70, H⟩ := H
          replace H : (some (t104, t105, t106, 0)) = some (r1, r2, r3, r4) := H
          have A7 := Aside0.mk A70
          clear A70
          simp only [Option.some.injEq, Prod.mk.injEq] at H
          obtain ⟨rfl, rfl, rfl, rfl⟩ := H
          go_wp2_with (first | ((with_reducible refine gate_callee (f := 50) rfl ?_); refine goesL_ (some 25) rfl rfl Try.func50 (by kernel_rfl) rfl #[.int .i64 (wrap64 (Int.tdiv a0 86400))] rfl (by (try simp only [List.map_toArray, List.map_cons, List.map_nil]); first | done | rfl | (simp only [List.length_drop, List.length_take]; rfl)) ?_; (with_reducible refine (list_date.calls (wrap64 (Int.tdiv a0 86400)) t104 t105 t106 _ A7.out).mono ?_); rintro e w' ⟨rfl, ⟨nd, rfl⟩⟩; refine ⟨_, rfl, ?_⟩))
          refine bodyPost_ret (results_list (rs := [.tmp 2, .tmp 3, .tmp 4, .tmp 5]) rfl (by simp) (.tmp (.tmp (.tmp (.tmp .nil))))) rfl ?_
          exact ⟨by first | rfl | (simp; done) | (simp [*]; done), by repeat (first | exact Drawn0.refl _ | apply Drawn0.step)⟩

/-! ### creelref_leap: function 51 -/
def creelref_leap.f (a0 : Int) : Option (Bool) := if (Int.tmod a0 4) = 0 then (if (Int.tmod a0 100) = 0 then (some ((Int.tmod a0 400) == 0)) else (some true)) else (some false)
set_option maxHeartbeats 8000000 in
set_option maxRecDepth 100000 in
theorem creelref_leap.calls (a0 : Int) (r : Bool) (w : World) (h : creelref_leap.f a0 = some r) :
    Calls Try.prog 51 #[.int .i64 a0] w fun e w' => e = .returned (.bool r) ∧ Drawn0 w w' := by
  have H : (if (Int.tmod a0 4) = 0 then (if (Int.tmod a0 100) = 0 then (some ((Int.tmod a0 400) == 0)) else (some true)) else (some false)) = some r := h
  clear h
  by_cases c2 : (Int.tmod a0 4) = 0
  · rw [if_pos c2] at H
    have c2b0 : ((Int.tmod a0 4) == 0) = true := beq_iff_eq.mpr c2
    have c2b1 : ((Int.tmod a0 4) != 0) = false := bne_eq_false_iff_eq.mpr c2
    clear c2
    by_cases c3 : (Int.tmod a0 100) = 0
    · rw [if_pos c3] at H
      have c3b0 : ((Int.tmod a0 100) == 0) = true := beq_iff_eq.mpr c3
      have c3b1 : ((Int.tmod a0 100) != 0) = false := bne_eq_false_iff_eq.mpr c3
      clear c3
      obtain rfl := Option.some.inj H
      go_enter Try.func51, Try.ntmps51
      go_wp2
      go_ret
      exact ⟨by first | rfl | (simp; done) | (simp [*]; done), by repeat (first | exact Drawn0.refl _ | apply Drawn0.step)⟩
    · rw [if_neg c3] at H
      have c3b0 : ((Int.tmod a0 100) == 0) = false := beq_eq_false_iff_ne.mpr c3
      have c3b1 : ((Int.tmod a0 100) != 0) = true := bne_iff_ne.mpr c3
      obtain rfl := Option.some.inj H
      go_enter Try.func51, Try.ntmps51
      go_wp2
      go_ret
      exact ⟨by first | rfl | (simp; done) | (simp [*]; done), by repeat (first | exact Drawn0.refl _ | apply Drawn0.step)⟩
  · rw [if_neg c2] at H
    have c2b0 : ((Int.tmod a0 4) == 0) = false := beq_eq_false_iff_ne.mpr c2
    have c2b1 : ((Int.tmod a0 4) != 0) = true := bne_iff_ne.mpr c2
    obtain rfl := Option.some.inj H
    go_enter Try.func51, Try.ntmps51
    go_wp2
    go_ret
    exact ⟨by first | rfl | (simp; done) | (simp [*]; done), by repeat (first | exact Drawn0.refl _ | apply Drawn0.step)⟩

/-! ### creelref_DayOf: function 42 -/
mutual
def creelref_DayOf.j0 : Nat → Int → Bool → Option (Int × Int × Int × Int)
  | 0, _, _ => none
  | k + 1, x0, x17 => if x17 = true then (some (0, 0, 0, 4)) else (if (Int.tmod (wrap64 (Int.tdiv (wrap64 (x0 - (Int.tmod (wrap64 ((Int.tmod x0 86400) + 86400)) 86400))) 86400)) 146097) < 0 then (creelref_DayOf.j1 k (wrap64 (Int.tdiv (wrap64 (x0 - (Int.tmod (wrap64 ((Int.tmod x0 86400) + 86400)) 86400))) 86400)) (wrap64 ((wrap64 (Int.tdiv (wrap64 (Int.tdiv (wrap64 (x0 - (Int.tmod (wrap64 ((Int.tmod x0 86400) + 86400)) 86400))) 86400)) 146097)) - 1))) else (creelref_DayOf.j1 k (wrap64 (Int.tdiv (wrap64 (x0 - (Int.tmod (wrap64 ((Int.tmod x0 86400) + 86400)) 86400))) 86400)) (wrap64 (Int.tdiv (wrap64 (Int.tdiv (wrap64 (x0 - (Int.tmod (wrap64 ((Int.tmod x0 86400) + 86400)) 86400))) 86400)) 146097))))
def creelref_DayOf.j1 : Nat → Int → Int → Option (Int × Int × Int × Int)
  | 0, _, _ => none
  | k + 1, x6, x7 => creelref_DayOf.l0 k (wrap64 (x6 - (wrap64 (146097 * x7)))) x7 1970
def creelref_DayOf.j3 : Nat → Int → Int → Int → Option (Int × Int × Int × Int)
  | 0, _, _, _ => none
  | k + 1, x6, x7, x8 => creelref_DayOf.l1 k x6 x7 x8 1
def creelref_DayOf.l1 : Nat → Int → Int → Int → Int → Option (Int × Int × Int × Int)
  | 0, _, _, _, _ => none
  | k + 1, x6, x7, x8, x10 => (some (([31, 28, 31, 30, 31, 30, 31, 31, 30, 31, 30, 31] : List Int) : List Int)).bind fun y108 => (if 0 ≤ (wrap64 (x10 - 1)) then (if (wrap64 (x10 - 1)) < (y108.length : Int) then (if x10 = 2 then ((creelref_leap.f x8).bind fun t112 => (creelref_DayOf.j5 k x6 x7 x8 x10 (rd y108 (wrap64 (x10 - 1))) t112)) else (creelref_DayOf.j5 k x6 x7 x8 x10 (rd y108 (wrap64 (x10 - 1))) false)) else (none)) else (none))
def creelref_DayOf.j5 : Nat → Int → Int → Int → Int → Int → Bool → Option (Int × Int × Int × Int)
  | 0, _, _, _, _, _, _ => none
  | k + 1, x6, x7, x8, x10, x11, x56 => if x56 = true then (if x6 < 29 then (some (wrap64 (x8 + (wrap64 (400 * x7))), x10, wrap64 (x6 + 1), 0)) else (creelref_DayOf.l1 k (wrap64 (x6 - 29)) x7 x8 (wrap64 (x10 + 1)))) else (if x6 < x11 then (some (wrap64 (x8 + (wrap64 (400 * x7))), x10, wrap64 (x6 + 1), 0)) else (creelref_DayOf.l1 k (wrap64 (x6 - x11)) x7 x8 (wrap64 (x10 + 1))))
def creelref_DayOf.l0 : Nat → Int → Int → Int → Option (Int × Int × Int × Int)
  | 0, _, _, _ => none
  | k + 1, x6, x7, x8 => (creelref_leap.f x8).bind fun t107 => (if t107 = true then (if x6 < 366 then (creelref_DayOf.j3 k x6 x7 x8) else (creelref_DayOf.l0 k (wrap64 (x6 - 366)) x7 (wrap64 (x8 + 1)))) else (if x6 < 365 then (creelref_DayOf.j3 k x6 x7 x8) else (creelref_DayOf.l0 k (wrap64 (x6 - 365)) x7 (wrap64 (x8 + 1)))))
end
def creelref_DayOf.f (k : Nat) (a0 : Int) : Option (Int × Int × Int × Int) := if a0 < (-1099511627776) then (creelref_DayOf.j0 k a0 true) else (creelref_DayOf.j0 k a0 (decide (a0 > 1099511627776)))
theorem creelref_DayOf.mono_l : ∀ k, (∀ y0 y1, LeO (creelref_DayOf.j0 k y0 y1) (creelref_DayOf.j0 (k + 1) y0 y1)) ∧ (∀ y0 y1, LeO (creelref_DayOf.j1 k y0 y1) (creelref_DayOf.j1 (k + 1) y0 y1)) ∧ (∀ y0 y1 y2, LeO (creelref_DayOf.j3 k y0 y1 y2) (creelref_DayOf.j3 (k + 1) y0 y1 y2)) ∧ (∀ y0 y1 y2 y3, LeO (creelref_DayOf.l1 k y0 y1 y2 y3) (creelref_DayOf.l1 (k + 1) y0 y1 y2 y3)) ∧ (∀ y0 y1 y2 y3 y4 y5, LeO (creelref_DayOf.j5 k y0 y1 y2 y3 y4 y5) (creelref_DayOf.j5 (k + 1) y0 y1 y2 y3 y4 y5)) ∧ (∀ y0 y1 y2, LeO (creelref_DayOf.l0 k y0 y1 y2) (creelref_DayOf.l0 (k + 1) y0 y1 y2))
  | 0 => ⟨fun _ _ r h => by simp [creelref_DayOf.j0] at h, fun _ _ r h => by simp [creelref_DayOf.j1] at h, fun _ _ _ r h => by simp [creelref_DayOf.j3] at h, fun _ _ _ _ r h => by simp [creelref_DayOf.l1] at h, fun _ _ _ _ _ _ r h => by simp [creelref_DayOf.j5] at h, fun _ _ _ r h => by simp [creelref_DayOf.l0] at h⟩
  | k + 1 => by
    obtain ⟨ih0, ih1, ih2, ih3, ih4, ih5⟩ := creelref_DayOf.mono_l k
    refine ⟨?_, ?_, ?_, ?_, ?_, ?_⟩
    · intro y0 y1
      unfold creelref_DayOf.j0
      repeat' first
      | (with_reducible exact ih0 _ _)
      | (with_reducible exact ih1 _ _)
      | (with_reducible exact ih2 _ _ _)
      | (with_reducible exact ih3 _ _ _ _)
      | (with_reducible exact ih4 _ _ _ _ _ _)
      | (with_reducible exact ih5 _ _ _)
      | (with_reducible exact LeO.refl _)
      | (with_reducible exact LeO.none _)
      | (with_reducible refine LeO.ite ?_ ?_)
      | (with_reducible refine LeO.bind ?_ (fun _ => ?_))
      | exact ih0 _ _
      | exact ih1 _ _
      | exact ih2 _ _ _
      | exact ih3 _ _ _ _
      | exact ih4 _ _ _ _ _ _
      | exact ih5 _ _ _
      | exact LeO.none _
      | refine LeO.ite ?_ ?_
      | refine LeO.bind ?_ (fun _ => ?_)
    · intro y0 y1
      unfold creelref_DayOf.j1
      repeat' first
      | (with_reducible exact ih0 _ _)
      | (with_reducible exact ih1 _ _)
      | (with_reducible exact ih2 _ _ _)
      | (with_reducible exact ih3 _ _ _ _)
      | (with_reducible exact ih4 _ _ _ _ _ _)
      | (with_reducible exact ih5 _ _ _)
      | (with_reducible exact LeO.refl _)
      | (with_reducible exact LeO.none _)
      | (with_reducible refine LeO.ite ?_ ?_)
      | (with_reducible refine LeO.bind ?_ (fun _ => ?_))
      | exact ih0 _ _
      | exact ih1 _ _
      | exact ih2 _ _ _
      | exact ih3 _ _ _ _
      | exact ih4 _ _ _ _ _ _
      | exact ih5 _ _ _
      | exact LeO.none _
      | refine LeO.ite ?_ ?_
      | refine LeO.bind ?_ (fun _ => ?_)
    · intro y0 y1 y2
      unfold creelref_DayOf.j3
      repeat' first
      | (with_reducible exact ih0 _ _)
      | (with_reducible exact ih1 _ _)
      | (with_reducible exact ih2 _ _ _)
      | (with_reducible exact ih3 _ _ _ _)
      | (with_reducible exact ih4 _ _ _ _ _ _)
      | (with_reducible exact ih5 _ _ _)
      | (with_reducible exact LeO.refl _)
      | (with_reducible exact LeO.none _)
      | (with_reducible refine LeO.ite ?_ ?_)
      | (with_reducible refine LeO.bind ?_ (fun _ => ?_))
      | exact ih0 _ _
      | exact ih1 _ _
      | exact ih2 _ _ _
      | exact ih3 _ _ _ _
      | exact ih4 _ _ _ _ _ _
      | exact ih5 _ _ _
      | exact LeO.none _
      | refine LeO.ite ?_ ?_
      | refine LeO.bind ?_ (fun _ => ?_)
    · intro y0 y1 y2 y3
      unfold creelref_DayOf.l1
      repeat' first
      | (with_reducible exact ih0 _ _)
      | (with_reducible exact ih1 _ _)
      | (with_reducible exact ih2 _ _ _)
      | (with_reducible exact ih3 _ _ _ _)
      | (with_reducible exact ih4 _ _ _ _ _ _)
      | (with_reducible exact ih5 _ _ _)
      | (with_reducible exact LeO.refl _)
      | (with_reducible exact LeO.none _)
      | (with_reducible refine LeO.ite ?_ ?_)
      | (with_reducible refine LeO.bind ?_ (fun _ => ?_))
      | exact ih0 _ _
      | exact ih1 _ _
      | exact ih2 _ _ _
      | exact ih3 _ _ _ _
      | exact ih4 _ _ _ _ _ _
      | exact ih5 _ _ _
      | exact LeO.none _
      | refine LeO.ite ?_ ?_
      | refine LeO.bind ?_ (fun _ => ?_)
    · intro y0 y1 y2 y3 y4 y5
      unfold creelref_DayOf.j5
      repeat' first
      | (with_reducible exact ih0 _ _)
      | (with_reducible exact ih1 _ _)
      | (with_reducible exact ih2 _ _ _)
      | (with_reducible exact ih3 _ _ _ _)
      | (with_reducible exact ih4 _ _ _ _ _ _)
      | (with_reducible exact ih5 _ _ _)
      | (with_reducible exact LeO.refl _)
      | (with_reducible exact LeO.none _)
      | (with_reducible refine LeO.ite ?_ ?_)
      | (with_reducible refine LeO.bind ?_ (fun _ => ?_))
      | exact ih0 _ _
      | exact ih1 _ _
      | exact ih2 _ _ _
      | exact ih3 _ _ _ _
      | exact ih4 _ _ _ _ _ _
      | exact ih5 _ _ _
      | exact LeO.none _
      | refine LeO.ite ?_ ?_
      | refine LeO.bind ?_ (fun _ => ?_)
    · intro y0 y1 y2
      unfold creelref_DayOf.l0
      repeat' first
      | (with_reducible exact ih0 _ _)
      | (with_reducible exact ih1 _ _)
      | (with_reducible exact ih2 _ _ _)
      | (with_reducible exact ih3 _ _ _ _)
      | (with_reducible exact ih4 _ _ _ _ _ _)
      | (with_reducible exact ih5 _ _ _)
      | (with_reducible exact LeO.refl _)
      | (with_reducible exact LeO.none _)
      | (with_reducible refine LeO.ite ?_ ?_)
      | (with_reducible refine LeO.bind ?_ (fun _ => ?_))
      | exact ih0 _ _
      | exact ih1 _ _
      | exact ih2 _ _ _
      | exact ih3 _ _ _ _
      | exact ih4 _ _ _ _ _ _
      | exact ih5 _ _ _
      | exact LeO.none _
      | refine LeO.ite ?_ ?_
      | refine LeO.bind ?_ (fun _ => ?_)
theorem creelref_DayOf.mono : ∀ a0 k, LeO (creelref_DayOf.f k a0) (creelref_DayOf.f (k + 1) a0) := by
  intro a0 k
  obtain ⟨ih0, ih1, ih2, ih3, ih4, ih5⟩ := creelref_DayOf.mono_l k
  unfold creelref_DayOf.f
  repeat' first
      | (with_reducible exact ih0 _ _)
      | (with_reducible exact ih1 _ _)
      | (with_reducible exact ih2 _ _ _)
      | (with_reducible exact ih3 _ _ _ _)
      | (with_reducible exact ih4 _ _ _ _ _ _)
      | (with_reducible exact ih5 _ _ _)
      | (with_reducible exact LeO.refl _)
      | (with_reducible exact LeO.none _)
      | (with_reducible refine LeO.ite ?_ ?_)
      | (with_reducible refine LeO.bind ?_ (fun _ => ?_))
      | exact ih0 _ _
      | exact ih1 _ _
      | exact ih2 _ _ _
      | exact ih3 _ _ _ _
      | exact ih4 _ _ _ _ _ _
      | exact ih5 _ _ _
      | exact LeO.none _
      | refine LeO.ite ?_ ?_
      | refine LeO.bind ?_ (fun _ => ?_)
set_option maxHeartbeats 8000000 in
set_option maxRecDepth 100000 in
theorem creelref_DayOf.calls (k : Nat) (a0 : Int) (r1 : Int) (r2 : Int) (r3 : Int) (r4 : Int) (w : World) (h : creelref_DayOf.f k a0 = some (r1, r2, r3, r4)) :
    Calls Try.prog 42 #[.int .i64 a0] w fun e w' => e = .returned (.tuple #[.int .i64 r1, .int .i64 r2, .int .i64 r3, .int .i64 r4]) ∧ Below w.heap.size w w' := by
  have HB := Aside0.mk (Below.refl w.heap.size w)
  have H : (if a0 < (-1099511627776) then (creelref_DayOf.j0 k a0 true) else (creelref_DayOf.j0 k a0 (decide (a0 > 1099511627776)))) = some (r1, r2, r3, r4) := h
  clear h
  have HC2 := Aside0.mk H
  clear H
  go_enter Try.func42, Try.ntmps42
  go_upto_region 1 with (fail)
  go_cut [17] (fun v17 wc => ∃ (kq : Nat) (x17_1 : Bool), v17 = .bool x17_1 ∧ Aside0 (creelref_DayOf.j0 kq a0 x17_1 = some (r1, r2, r3, r4)) ∧ Aside0 (kq ≤ k) ∧ Aside0 (Below w.heap.size w wc))
  case first =>
    have H := HC2.out
    clear HC2
    by_cases c3 : a0 < (-1099511627776)
    · rw [if_pos c3] at H
      have c3b0 : decide (a0 < (-1099511627776)) = true := decide_eq_true c3
      clear c3
      (first | rw [c3b0] | (simp only [i64_w, i32_w]; rw [c3b0]) | skip)
      have H' := Aside0.mk H
      clear H
      go_wp2
      go_meet
      case rel => exact ⟨_, (true), (by first | rfl | (simp; done) | (simp [*]; done)), H', ⟨by first | omega | exact Nat.le_refl _⟩, ⟨by repeat (first | (with_reducible first | exact HB.out | apply below_alloc | apply pw_below_drewN | apply below_drew1) | exact HB.out)⟩⟩
    · rw [if_neg c3] at H
      have c3b0 : decide (a0 < (-1099511627776)) = false := decide_eq_false c3
      clear c3
      (first | rw [c3b0] | (simp only [i64_w, i32_w]; rw [c3b0]) | skip)
      have H' := Aside0.mk H
      clear H
      go_wp2
      go_meet
      case rel => exact ⟨_, (decide (a0 > 1099511627776)), (by first | rfl | (simp; done) | (simp [*]; done)), H', ⟨by first | omega | exact Nat.le_refl _⟩, ⟨by repeat (first | (with_reducible first | exact HB.out | apply below_alloc | apply pw_below_drewN | apply below_drew1) | exact HB.out)⟩⟩
  case rest =>
    clear HC2
    try clear p2
    try clear c3
    try clear c3b0
    obtain ⟨kq, x17_1, rfl, HA, HJ1, HB⟩ := hcut
    cases kq with
    | zero => exact absurd HA.out (by simp [creelref_DayOf.j0])
    | succ kj1 =>
      have H := HA.out
      clear HA
      simp only [creelref_DayOf.j0] at H
      by_cases c4 : x17_1 = true
      · subst c4
        have H1 : (some (0, 0, 0, 4)) = some (r1, r2, r3, r4) := by rw [if_pos rfl] at H; exact H
        clear H
        have H := H1
        clear H1
        simp only [Option.some.injEq, Prod.mk.injEq] at H
        obtain ⟨rfl, rfl, rfl, rfl⟩ := H
        go_wp2
        refine bodyPost_ret (results_list (rs := [.tmp 2, .tmp 3, .tmp 4, .tmp 5]) rfl (by simp) (.tmp (.tmp (.tmp (.tmp .nil))))) rfl ?_
        exact ⟨by first | rfl | (simp [errW_none, errW_some] <;> rfl) | (simp [*, errW_none, errW_some] <;> rfl), by repeat (first | (with_reducible first | exact HB.out | apply below_alloc | apply pw_below_drewN | apply below_drew1) | exact HB.out)⟩
      · replace c4 := Bool.eq_false_iff.mpr c4
        subst c4
        have H1 : (if (Int.tmod (wrap64 (Int.tdiv (wrap64 (a0 - (Int.tmod (wrap64 ((Int.tmod a0 86400) + 86400)) 86400))) 86400)) 146097) < 0 then (creelref_DayOf.j1 kj1 (wrap64 (Int.tdiv (wrap64 (a0 - (Int.tmod (wrap64 ((Int.tmod a0 86400) + 86400)) 86400))) 86400)) (wrap64 ((wrap64 (Int.tdiv (wrap64 (Int.tdiv (wrap64 (a0 - (Int.tmod (wrap64 ((Int.tmod a0 86400) + 86400)) 86400))) 86400)) 146097)) - 1))) else (creelref_DayOf.j1 kj1 (wrap64 (Int.tdiv (wrap64 (a0 - (Int.tmod (wrap64 ((Int.tmod a0 86400) + 86400)) 86400))) 86400)) (wrap64 (Int.tdiv (wrap64 (Int.tdiv (wrap64 (a0 - (Int.tmod (wrap64 ((Int.tmod a0 86400) + 86400)) 86400))) 86400)) 146097)))) = some (r1, r2, r3, r4) := by rw [if_neg (show ¬ (false = true) by decide)] at H; exact H
        clear H
        have H := H1
        clear H1
        have HC5 := Aside0.mk H
        clear H
        go_upto_if 29 with (fail)
        go_cut [7] (fun v7 wc => ∃ (kq : Nat) (x7_4 : Int), v7 = .int .i64 x7_4 ∧ Aside0 (creelref_DayOf.j1 kq (wrap64 (Int.tdiv (wrap64 (a0 - (Int.tmod (wrap64 ((Int.tmod a0 86400) + 86400)) 86400))) 86400)) x7_4 = some (r1, r2, r3, r4)) ∧ Aside0 (kq ≤ kj1) ∧ Aside0 (Below w.heap.size w wc))
        case first =>
          have H := HC5.out
          clear HC5
          by_cases c6 : (Int.tmod (wrap64 (Int.tdiv (wrap64 (a0 - (Int.tmod (wrap64 ((Int.tmod a0 86400) + 86400)) 86400))) 86400)) 146097) < 0
          · rw [if_pos c6] at H
            have c6b0 : decide ((Int.tmod (wrap64 (Int.tdiv (wrap64 (a0 - (Int.tmod (wrap64 ((Int.tmod a0 86400) + 86400)) 86400))) 86400)) 146097) < 0) = true := decide_eq_true c6
            clear c6
            (first | rw [c6b0] | (simp only [i64_w, i32_w]; rw [c6b0]) | skip)
            have H' := Aside0.mk H
            clear H
            go_wp2
            go_meet
            case rel => exact ⟨_, (wrap64 ((wrap64 (Int.tdiv (wrap64 (Int.tdiv (wrap64 (a0 - (Int.tmod (wrap64 ((Int.tmod a0 86400) + 86400)) 86400))) 86400)) 146097)) - 1)), (by first | rfl | (simp; done) | (simp [*]; done)), H', ⟨by have := HJ1.out; first | omega | exact Nat.le_refl _⟩, ⟨by repeat (first | (with_reducible first | exact HB.out | apply below_alloc | apply pw_below_drewN | apply below_drew1) | exact HB.out)⟩⟩
          · rw [if_neg c6] at H
            have c6b0 : decide ((Int.tmod (wrap64 (Int.tdiv (wrap64 (a0 - (Int.tmod (wrap64 ((Int.tmod a0 86400) + 86400)) 86400))) 86400)) 146097) < 0) = false := decide_eq_false c6
            clear c6
            (first | rw [c6b0] | (simp only [i64_w, i32_w]; rw [c6b0]) | skip)
            have H' := Aside0.mk H
            clear H
            go_wp2
            go_meet
            case rel => exact ⟨_, (wrap64 (Int.tdiv (wrap64 (Int.tdiv (wrap64 (a0 - (Int.tmod (wrap64 ((Int.tmod a0 86400) + 86400)) 86400))) 86400)) 146097)), (by first | rfl | (simp; done) | (simp [*]; done)), H', ⟨by have := HJ1.out; first | omega | exact Nat.le_refl _⟩, ⟨by repeat (first | (with_reducible first | exact HB.out | apply below_alloc | apply pw_below_drewN | apply below_drew1) | exact HB.out)⟩⟩
        case rest =>
          clear HC5
          try clear p2
          try clear c3
          try clear c3b0
          try clear c4
          try clear c6
          try clear c6b0
          try clear p6
          try clear p2
          obtain ⟨kq, x7_4, rfl, HA, HJ4, HB⟩ := hcut
          cases kq with
          | zero => exact absurd HA.out (by simp [creelref_DayOf.j1])
          | succ kj4 =>
            have H := HA.out
            clear HA
            simp only [creelref_DayOf.j1] at H
            have HC7 := Aside0.mk H
            clear H
            go_upto_block 0 with (fail)
            go_cut [6, 8] (fun v6 v8 wc => ∃ (kq : Nat) (x6_6 : Int) (x8_6 : Int), v6 = .int .i64 x6_6 ∧ v8 = .int .i64 x8_6 ∧ Aside0 (creelref_DayOf.j3 kq x6_6 x7_4 x8_6 = some (r1, r2, r3, r4)) ∧ Aside0 (kq ≤ kj4) ∧ Aside0 (Below w.heap.size w wc))
            case first =>
              have H := HC7.out
              clear HC7
              have H' := Aside0.mk H
              clear H
              go_wp2
              go_loopg [6, 8] kj4 (fun kq v6 v8 w' => ∃ (x6_3 : Int) (x8_3 : Int), v6 = .int .i64 x6_3 ∧ v8 = .int .i64 x8_3 ∧ Aside0 (creelref_DayOf.l0 kq x6_3 x7_4 x8_3 = some (r1, r2, r3, r4)) ∧ Aside0 (kq ≤ kj4) ∧ Aside0 (Below w.heap.size w w'))
              case atStart => exact ⟨(wrap64 ((wrap64 (Int.tdiv (wrap64 (a0 - (Int.tmod (wrap64 ((Int.tmod a0 86400) + 86400)) 86400))) 86400)) - (wrap64 (146097 * x7_4)))), (1970), (by first | rfl | (simp; done) | (simp [*]; done)), (by first | rfl | (simp; done) | (simp [*]; done)), H', ⟨Nat.le_refl _⟩, ⟨by repeat (first | (with_reducible first | exact HB.out | apply below_alloc | apply pw_below_drewN | apply below_drew1) | exact HB.out)⟩⟩
              case round =>
                clear H'
                try clear p2
                try clear c3
                try clear c3b0
                try clear c4
                try clear c6
                try clear c6b0
                try clear p6
                try clear p2
                try clear p6
                obtain ⟨x6_3, x8_3, rfl, rfl, HA, HK3, HB⟩ := hrel
                cases gk with
                | zero => exact absurd HA.out (by simp [creelref_DayOf.l0])
                | succ k3 =>
                  have H := HA.out
                  clear HA
                  simp only [creelref_DayOf.l0] at H
                  replace H := Option.bind_eq_some_iff.mp H
                  obtain ⟨t107, A80, H⟩ := H
                  replace H : (if t107 = true then (if x6_3 < 366 then (creelref_DayOf.j3 k3 x6_3 x7_4 x8_3) else (creelref_DayOf.l0 k3 (wrap64 (x6_3 - 366)) x7_4 (wrap64 (x8_3 + 1)))) else (if x6_3 < 365 then (creelref_DayOf.j3 k3 x6_3 x7_4 x8_3) else (creelref_DayOf.l0 k3 (wrap64 (x6_3 - 365)) x7_4 (wrap64 (x8_3 + 1))))) = some (r1, r2, r3, r4) := H
                  have A8 := Aside0.mk A80
                  clear A80
                  by_cases c9 : t107 = true
                  · subst c9
                    have H1 : (if x6_3 < 366 then (creelref_DayOf.j3 k3 x6_3 x7_4 x8_3) else (creelref_DayOf.l0 k3 (wrap64 (x6_3 - 366)) x7_4 (wrap64 (x8_3 + 1)))) = some (r1, r2, r3, r4) := by rw [if_pos rfl] at H; exact H
                    clear H
                    have H := H1
                    clear H1
                    by_cases c10 : x6_3 < 366
                    · rw [if_pos c10] at H
                      have c10b0 : decide (x6_3 < 366) = true := decide_eq_true c10
                      clear c10
                      (first | rw [c10b0] | (simp only [i64_w, i32_w]; rw [c10b0]) | skip)
                      have H' := Aside0.mk H
                      clear H
                      go_wp2_with (first | ((with_reducible refine gate_callee (f := 51) rfl ?_); refine goesL_ (some 37) rfl rfl Try.func51 (by kernel_rfl) rfl #[.int .i64 x8_3] rfl (by (try simp only [List.map_toArray, List.map_cons, List.map_nil]); first | done | rfl | (simp only [List.length_drop, List.length_take]; rfl)) ?_; (with_reducible refine (creelref_leap.calls x8_3 true _ A8.out).mono ?_); rintro e w' ⟨rfl, ⟨nd, rfl⟩⟩; refine ⟨_, rfl, ?_⟩))
                      go_meet
                      case rel => exact ⟨_, (x6_3), (x8_3), (by first | rfl | (simp; done) | (simp [*]; done)), (by first | rfl | (simp; done) | (simp [*]; done)), H', ⟨by have := HJ1.out; have := HJ4.out; have := HK3.out; first | omega | exact Nat.le_refl _⟩, ⟨by repeat (first | (with_reducible first | exact HB.out | apply below_alloc | apply pw_below_drewN | apply below_drew1) | exact HB.out)⟩⟩
                    · rw [if_neg c10] at H
                      have c10b0 : decide (x6_3 < 366) = false := decide_eq_false c10
                      clear c10
                      (first | rw [c10b0] | (simp only [i64_w, i32_w]; rw [c10b0]) | skip)
                      have H' := Aside0.mk H
                      clear H
                      go_wp2_with (first | ((with_reducible refine gate_callee (f := 51) rfl ?_); refine goesL_ (some 37) rfl rfl Try.func51 (by kernel_rfl) rfl #[.int .i64 x8_3] rfl (by (try simp only [List.map_toArray, List.map_cons, List.map_nil]); first | done | rfl | (simp only [List.length_drop, List.length_take]; rfl)) ?_; (with_reducible refine (creelref_leap.calls x8_3 true _ A8.out).mono ?_); rintro e w' ⟨rfl, ⟨nd, rfl⟩⟩; refine ⟨_, rfl, ?_⟩))
                      go_roundg k3
                      case measure => have := HJ1.out; have := HJ4.out; have := HK3.out; omega
                      case rel => exact ⟨(wrap64 (x6_3 - 366)), (wrap64 (x8_3 + 1)), (by first | rfl | (simp; done) | (simp [*]; done)), (by first | rfl | (simp; done) | (simp [*]; done)), H', ⟨by have := HJ1.out; have := HJ4.out; have := HK3.out; omega⟩, ⟨by repeat (first | (with_reducible first | exact HB.out | apply below_alloc | apply pw_below_drewN | apply below_drew1) | exact HB.out)⟩⟩
                  · replace c9 := Bool.eq_false_iff.mpr c9
                    subst c9
                    have H1 : (if x6_3 < 365 then (creelref_DayOf.j3 k3 x6_3 x7_4 x8_3) else (creelref_DayOf.l0 k3 (wrap64 (x6_3 - 365)) x7_4 (wrap64 (x8_3 + 1)))) = some (r1, r2, r3, r4) := by rw [if_neg (show ¬ (false = true) by decide)] at H; exact H
                    clear H
                    have H := H1
                    clear H1
                    by_cases c11 : x6_3 < 365
                    · rw [if_pos c11] at H
                      have c11b0 : decide (x6_3 < 365) = true := decide_eq_true c11
                      clear c11
                      have H' := Aside0.mk H
                      clear H
                      go_wp2_with (first | ((with_reducible refine gate_callee (f := 51) rfl ?_); refine goesL_ (some 37) rfl rfl Try.func51 (by kernel_rfl) rfl #[.int .i64 x8_3] rfl (by (try simp only [List.map_toArray, List.map_cons, List.map_nil]); first | done | rfl | (simp only [List.length_drop, List.length_take]; rfl)) ?_; (with_reducible refine (creelref_leap.calls x8_3 false _ A8.out).mono ?_); rintro e w' ⟨rfl, ⟨nd, rfl⟩⟩; refine ⟨_, rfl, ?_⟩))
                      go_meet
                      case rel => exact ⟨_, (x6_3), (x8_3), (by first | rfl | (simp; done) | (simp [*]; done)), (by first | rfl | (simp; done) | (simp [*]; done)), H', ⟨by have := HJ1.out; have := HJ4.out; have := HK3.out; first | omega | exact Nat.le_refl _⟩, ⟨by repeat (first | (with_reducible first | exact HB.out | apply below_alloc | apply pw_below_drewN | apply below_drew1) | exact HB.out)⟩⟩
                    · rw [if_neg c11] at H
                      have c11b0 : decide (x6_3 < 365) = false := decide_eq_false c11
                      clear c11
                      have H' := Aside0.mk H
                      clear H
                      go_wp2_with (first | ((with_reducible refine gate_callee (f := 51) rfl ?_); refine goesL_ (some 37) rfl rfl Try.func51 (by kernel_rfl) rfl #[.int .i64 x8_3] rfl (by (try simp only [List.map_toArray, List.map_cons, List.map_nil]); first | done | rfl | (simp only [List.length_drop, List.length_take]; rfl)) ?_; (with_reducible refine (creelref_leap.calls x8_3 false _ A8.out).mono ?_); rintro e w' ⟨rfl, ⟨nd, rfl⟩⟩; refine ⟨_, rfl, ?_⟩))
                      go_roundg k3
                      case measure => have := HJ1.out; have := HJ4.out; have := HK3.out; omega
                      case rel => exact ⟨(wrap64 (x6_3 - 365)), (wrap64 (x8_3 + 1)), (by first | rfl | (simp; done) | (simp [*]; done)), (by first | rfl | (simp; done) | (simp [*]; done)), H', ⟨by have := HJ1.out; have := HJ4.out; have := HK3.out; omega⟩, ⟨by repeat (first | (with_reducible first | exact HB.out | apply below_alloc | apply pw_below_drewN | apply below_drew1) | exact HB.out)⟩⟩
            case rest =>
              clear HC7
              try clear c1
              try clear p2
              try clear c3
              try clear c3b0
              try clear c4
              try clear c5
              try clear c6
              try clear c6b0
              try clear p6
              try clear c9
              try clear c10
              try clear c10b0
              try clear c11
              try clear c11b0
              try clear p2
              try clear p6
              obtain ⟨kq, x6_6, x8_6, rfl, rfl, HA, HJ6, HB⟩ := hcut
              cases kq with
              | zero => exact absurd HA.out (by simp [creelref_DayOf.j3])
              | succ kj6 =>
                have H := HA.out
                clear HA
                simp only [creelref_DayOf.j3] at H
                have H' := Aside0.mk H
                clear H
                go_wp2
                go_loopg [6, 10] kj6 (fun kq v6 v10 w' => ∃ (x6_4 : Int) (x10_4 : Int), v6 = .int .i64 x6_4 ∧ v10 = .int .i64 x10_4 ∧ Aside0 (creelref_DayOf.l1 kq x6_4 x7_4 x8_6 x10_4 = some (r1, r2, r3, r4)) ∧ Aside0 (kq ≤ kj6) ∧ Aside0 (Below w.heap.size w w'))
                case atStart => exact ⟨(x6_6), (1), (by first | rfl | (simp; done) | (simp [*]; done)), (by first | rfl | (simp; done) | (simp [*]; done)), H', ⟨Nat.le_refl _⟩, ⟨by repeat (first | (with_reducible first | exact HB.out | apply below_alloc | apply pw_below_drewN | apply below_drew1) | exact HB.out)⟩⟩
                case round =>
                  clear H'
                  try clear c1
                  try clear p2
                  try clear c3
                  try clear c3b0
                  try clear c4
                  try clear c5
                  try clear c6
                  try clear c6b0
                  try clear p6
                  try clear c9
                  try clear c10
                  try clear c10b0
                  try clear c11
                  try clear c11b0
                  try clear p2
                  try clear p6
                  obtain ⟨x6_4, x10_4, rfl, rfl, HA, HK4, HB⟩ := hrel
                  cases gk with
                  | zero => exact absurd HA.out (by simp [creelref_DayOf.l1])
                  | succ k4 =>
                    have H := HA.out
                    clear HA
                    simp only [creelref_DayOf.l1] at H
                    obtain ⟨y108, hy108⟩ : ∃ y_ : List Int, y_ = (([31, 28, 31, 30, 31, 30, 31, 31, 30, 31, 30, 31] : List Int)) := ⟨_, rfl⟩
                    replace H : (if 0 ≤ (wrap64 (x10_4 - 1)) then (if (wrap64 (x10_4 - 1)) < (y108.length : Int) then (if x10_4 = 2 then ((creelref_leap.f x8_6).bind fun t112 => (creelref_DayOf.j5 k4 x6_4 x7_4 x8_6 x10_4 (rd y108 (wrap64 (x10_4 - 1))) t112)) else (creelref_DayOf.j5 k4 x6_4 x7_4 x8_6 x10_4 (rd y108 (wrap64 (x10_4 - 1))) false)) else (none)) else (none)) = some (r1, r2, r3, r4) := by first | (rw [hy108]; with_reducible exact H) | (have H2_ := (Option.bind_some _ _).symm.trans H; rw [hy108]; with_reducible exact H2_) | (have H2_ := (Option.bind_some _ _).symm.trans H; with_reducible exact H2_) | with_reducible exact H | (rw [hy108]; exact H) | exact H
                    have Ny108 := Aside0.mk hy108
                    clear hy108
                    obtain ⟨ji12, hji12⟩ : ∃ j_ : Int, (wrap64 (x10_4 - 1)) = j_ := ⟨_, rfl⟩
                    replace H : (if 0 ≤ (ji12) then (if (ji12) < (y108.length : Int) then (if x10_4 = 2 then ((creelref_leap.f x8_6).bind fun t112 => (creelref_DayOf.j5 k4 x6_4 x7_4 x8_6 x10_4 (rd y108 (ji12)) t112)) else (creelref_DayOf.j5 k4 x6_4 x7_4 x8_6 x10_4 (rd y108 (ji12)) false)) else (none)) else (none)) = some (r1, r2, r3, r4) := by first | (rw [hji12] at H; exact H) | (simp only [hji12] at H ⊢; exact H)
                    have hji12w : (IntKind.i64.wrap (x10_4 - 1)) = ji12 := (i64_w _).trans hji12
                    by_cases c13 : 0 ≤ (ji12)
                    · rw [if_pos c13] at H
                      have c13b0 : decide (0 ≤ (ji12)) = true := decide_eq_true c13
                      clear c13
                      by_cases c14 : (ji12) < (y108.length : Int)
                      · rw [if_pos c14] at H
                        have c14b0 : decide ((ji12) < (y108.length : Int)) = true := decide_eq_true c14
                        clear c14
                        have HC15 := Aside0.mk H
                        clear H
                        go_upto_region 17 with (first | ((with_reducible refine gate_dst (N := 46) rfl ?_); refine Kd.R_lit (Kd.int .i64) _ 3 ?hg (N := 46) ?hd (xs := ([31, 28, 31, 30, 31, 30, 31, 31, 30, 31, 30, 31] : List Int)) (inner := [.int .i64 31, .int .i64 28, .int .i64 31, .int .i64 30, .int .i64 31, .int .i64 30, .int .i64 31, .int .i64 31, .int .i64 30, .int .i64 31, .int .i64 30, .int .i64 31]) (ok := fun _ => True) (okp := fun _ => True) ?hr ?hp (fun _ hk => hk) trivial (Below.refl _ _) (Nat.le_refl _) (by simp) ?_; (case hd => rfl); (case hg => rfl); (case hr => first | (go_simp; done) | (go_simp; rfl)); (case hp => exact (Reps.one (show Kd.M (Kd.int .i64) _ _ _ 31 [.int .i64 31] from rfl) (Reps.one (show Kd.M (Kd.int .i64) _ _ _ 28 [.int .i64 28] from rfl) (Reps.one (show Kd.M (Kd.int .i64) _ _ _ 31 [.int .i64 31] from rfl) (Reps.one (show Kd.M (Kd.int .i64) _ _ _ 30 [.int .i64 30] from rfl) (Reps.one (show Kd.M (Kd.int .i64) _ _ _ 31 [.int .i64 31] from rfl) (Reps.one (show Kd.M (Kd.int .i64) _ _ _ 30 [.int .i64 30] from rfl) (Reps.one (show Kd.M (Kd.int .i64) _ _ _ 31 [.int .i64 31] from rfl) (Reps.one (show Kd.M (Kd.int .i64) _ _ _ 31 [.int .i64 31] from rfl) (Reps.one (show Kd.M (Kd.int .i64) _ _ _ 30 [.int .i64 30] from rfl) (Reps.one (show Kd.M (Kd.int .i64) _ _ _ 31 [.int .i64 31] from rfl) (Reps.one (show Kd.M (Kd.int .i64) _ _ _ 30 [.int .i64 30] from rfl) (Reps.one (show Kd.M (Kd.int .i64) _ _ _ 31 [.int .i64 31] from rfl) (Reps.none _ _)))))))))))))); intro v109 w16 ho17 hb hg_ hnew_; clear hg_ hnew_; (first | rw [← Ny108.out] at ho17 | (simp only [Int.reduceToNat] at ho17; rw [← Ny108.out] at ho17)); have n0_ := Aside0.mk (Kd.R_lower ho17 (below_size (by repeat (first | (with_reducible first | exact HB.out | apply below_alloc | apply pw_below_drewN | apply below_drew1) | exact HB.out)))); have n1_ := Aside0.mk (below_step (by repeat (first | (with_reducible first | exact HB.out | apply below_alloc | apply pw_below_drewN | apply below_drew1) | exact HB.out)) hb); clear HB; have HO110 := n0_; have HB := n1_; clear n0_ n1_; clear hb ho17; obtain ⟨Ao18, co18, eo18⟩ := Kd.R_slice HO110.out; subst eo18; have p111 : 0 ≤ ((ji12) : Int) := of_decide_eq_true (by first | (with_reducible assumption) | assumption); have q111 : (ji12) < (y108.length : Int) := of_decide_eq_true (by first | (with_reducible assumption) | assumption); obtain ⟨ad111, e111, hx111_0⟩ := Kd.at_int (Kd.R_reads' HO110.out).2.2 (ji12) p111 q111; cases e111; replace p111 := eq_true p111; replace q111 := eq_true q111))
                        (try simp only [Act.put, List.setIfInBounds_toArray, List.set_cons_zero, List.set_cons_succ])
                        go_cut [56] (fun v56 wc => ∃ (kq : Nat) (x56_14 : Bool), v56 = .bool x56_14 ∧ Aside0 (creelref_DayOf.j5 kq x6_4 x7_4 x8_6 x10_4 (rd y108 (ji12)) x56_14 = some (r1, r2, r3, r4)) ∧ Aside0 (kq ≤ k4) ∧ Aside0 (Below w.heap.size w wc))
                        case first =>
                          have H := HC15.out
                          clear HC15
                          by_cases c19 : x10_4 = 2
                          · rw [if_pos c19] at H
                            have c19b0 : (x10_4 == 2) = true := beq_iff_eq.mpr c19
                            have c19b1 : (x10_4 != 2) = false := bne_eq_false_iff_eq.mpr c19
                            clear c19
                            (first | rw [c19b0] | (simp only [i64_w, i32_w]; rw [c19b0]) | skip)
                            replace H := Option.bind_eq_some_iff.mp H
                            obtain ⟨t112, A200, H⟩ := H
                            replace H : (creelref_DayOf.j5 k4 x6_4 x7_4 x8_6 x10_4 (rd y108 (ji12)) t112) = some (r1, r2, r3, r4) := H
                            have A20 := Aside0.mk A200
                            clear A200
                            have H' := Aside0.mk H
                            clear H
                            go_wp2_with (first | (go_at_call 51; (with_reducible refine (creelref_leap.calls x8_6 t112 _ A20.out).mono ?_); rintro e w' ⟨rfl, ⟨nd, rfl⟩⟩))
                            go_meet
                            case rel => exact ⟨_, (t112), (by first | rfl | (simp; done) | (simp [*]; done)), H', ⟨by have := HJ1.out; have := HJ4.out; have := HJ6.out; have := HK4.out; first | omega | exact Nat.le_refl _⟩, ⟨by repeat (first | (with_reducible first | exact HB.out | apply below_alloc | apply pw_below_drewN | apply below_drew1) | exact HB.out)⟩⟩
                          · rw [if_neg c19] at H
                            have c19b0 : (x10_4 == 2) = false := beq_eq_false_iff_ne.mpr c19
                            have c19b1 : (x10_4 != 2) = true := bne_iff_ne.mpr c19
                            (first | rw [c19b0] | (simp only [i64_w, i32_w]; rw [c19b0]) | skip)
                            have H' := Aside0.mk H
                            clear H
                            go_wp2
                            go_meet
                            case rel => exact ⟨_, (false), (by first | rfl | (simp; done) | (simp [*]; done)), H', ⟨by have := HJ1.out; have := HJ4.out; have := HJ6.out; have := HK4.out; first | omega | exact Nat.le_refl _⟩, ⟨by repeat (first | (with_reducible first | exact HB.out | apply below_alloc | apply pw_below_drewN | apply below_drew1) | exact HB.out)⟩⟩
                        case rest =>
                          clear HC15
                          try clear c1
                          try clear p1
                          try clear q1
                          try clear hx1
                          try clear p2
                          try clear c3
                          try clear c3b0
                          try clear c4
                          try clear c5
                          try clear c6
                          try clear c6b0
                          try clear p6
                          try clear c9
                          try clear c10
                          try clear c10b0
                          try clear c11
                          try clear c11b0
                          try clear p11
                          try clear q11
                          try clear hx11
                          try clear c13
                          try clear c13b0
                          try clear c14
                          try clear c14b0
                          try clear c19
                          try clear c19b0
                          try clear c19b1
                          try clear hx111_0
                          try clear p111
                          try clear p2
                          try clear p6
                          try clear q111
                          obtain ⟨kq, x56_14, rfl, HA, HJ14, HB⟩ := hcut
                          cases kq with
                          | zero => exact absurd HA.out (by simp [creelref_DayOf.j5])
                          | succ kj14 =>
                            have H := HA.out
                            clear HA
                            simp only [creelref_DayOf.j5] at H
                            by_cases c21 : x56_14 = true
                            · subst c21
                              have H1 : (if x6_4 < 29 then (some (wrap64 (x8_6 + (wrap64 (400 * x7_4))), x10_4, wrap64 (x6_4 + 1), 0)) else (creelref_DayOf.l1 kj14 (wrap64 (x6_4 - 29)) x7_4 x8_6 (wrap64 (x10_4 + 1)))) = some (r1, r2, r3, r4) := by rw [if_pos rfl] at H; exact H
                              clear H
                              have H := H1
                              clear H1
                              by_cases c22 : x6_4 < 29
                              · rw [if_pos c22] at H
                                have c22b0 : decide (x6_4 < 29) = true := decide_eq_true c22
                                clear c22
                                simp only [Option.some.injEq, Prod.mk.injEq] at H
                                obtain ⟨rfl, rfl, rfl, rfl⟩ := H
                                go_wp2
                                refine bodyPost_ret (results_list (rs := [.tmp 2, .tmp 3, .tmp 4, .tmp 5]) rfl (by simp) (.tmp (.tmp (.tmp (.tmp .nil))))) rfl ?_
                                exact ⟨by first | rfl | (simp [errW_none, errW_some] <;> rfl) | (simp only [← hji12]; first | rfl | (simp [errW_none, errW_some] <;> rfl)) | (simp [*, errW_none, errW_some] <;> rfl), by repeat (first | (with_reducible first | exact HB.out | apply below_alloc | apply pw_below_drewN | apply below_drew1) | exact HB.out)⟩
                              · rw [if_neg c22] at H
                                have c22b0 : decide (x6_4 < 29) = false := decide_eq_false c22
                                clear c22
                                have H' := Aside0.mk H
                                clear H
                                go_wp2
                                go_roundg kj14
                                case measure => have := HJ1.out; have := HJ4.out; have := HJ6.out; have := HK4.out; have := HJ14.out; omega
                                case rel => exact ⟨(wrap64 (x6_4 - 29)), (wrap64 (x10_4 + 1)), (by first | rfl | (simp; done) | (simp [*]; done)), (by first | rfl | (simp; done) | (simp [*]; done)), H', ⟨by have := HJ1.out; have := HJ4.out; have := HJ6.out; have := HK4.out; have := HJ14.out; omega⟩, ⟨by repeat (first | (with_reducible first | exact HB.out | apply below_alloc | apply pw_below_drewN | apply below_drew1) | exact HB.out)⟩⟩
                            · replace c21 := Bool.eq_false_iff.mpr c21
                              subst c21
                              have H1 : (if x6_4 < (rd y108 (ji12)) then (some (wrap64 (x8_6 + (wrap64 (400 * x7_4))), x10_4, wrap64 (x6_4 + 1), 0)) else (creelref_DayOf.l1 kj14 (wrap64 (x6_4 - (rd y108 (ji12)))) x7_4 x8_6 (wrap64 (x10_4 + 1)))) = some (r1, r2, r3, r4) := by rw [if_neg (show ¬ (false = true) by decide)] at H; exact H
                              clear H
                              have H := H1
                              clear H1
                              by_cases c23 : x6_4 < (rd y108 (ji12))
                              · rw [if_pos c23] at H
                                have c23b0 : decide (x6_4 < (rd y108 (ji12))) = true := decide_eq_true c23
                                clear c23
                                simp only [Option.some.injEq, Prod.mk.injEq] at H
                                obtain ⟨rfl, rfl, rfl, rfl⟩ := H
                                go_wp2
                                refine bodyPost_ret (results_list (rs := [.tmp 2, .tmp 3, .tmp 4, .tmp 5]) rfl (by simp) (.tmp (.tmp (.tmp (.tmp .nil))))) rfl ?_
                                exact ⟨by first | rfl | (simp [errW_none, errW_some] <;> rfl) | (simp only [← hji12]; first | rfl | (simp [errW_none, errW_some] <;> rfl)) | (simp [*, errW_none, errW_some] <;> rfl), by repeat (first | (with_reducible first | exact HB.out | apply below_alloc | apply pw_below_drewN | apply below_drew1) | exact HB.out)⟩
                              · rw [if_neg c23] at H
                                have c23b0 : decide (x6_4 < (rd y108 (ji12))) = false := decide_eq_false c23
                                clear c23
                                have H' := Aside0.mk H
                                clear H
                                go_wp2
                                go_roundg kj14
                                case measure => have := HJ1.out; have := HJ4.out; have := HJ6.out; have := HK4.out; have := HJ14.out; omega
                                case rel => exact ⟨(wrap64 (x6_4 - (rd y108 (ji12)))), (wrap64 (x10_4 + 1)), (by first | rfl | (simp; done) | (simp only [← hji12] <;> (first | rfl | simp)) | (simp [*]; done)), (by first | rfl | (simp; done) | (simp [*]; done)), H', ⟨by have := HJ1.out; have := HJ4.out; have := HJ6.out; have := HK4.out; have := HJ14.out; omega⟩, ⟨by repeat (first | (with_reducible first | exact HB.out | apply below_alloc | apply pw_below_drewN | apply below_drew1) | exact HB.out)⟩⟩
                      · rw [if_neg c14] at H
                        exact absurd H (by simp)
                    · rw [if_neg c13] at H
                      exact absurd H (by simp)

/-! ### creellaw_ListDays: function 14 -/
def creellaw_ListDays.f (k : Nat) (a0 : Int) : Option (Bool) := (list_Day.f k a0).bind fun bt113 => ((creelref_DayOf.f k a0).bind fun bt117 => (if bt113.1 = bt117.1 then (if bt113.2.1 = bt117.2.1 then (if bt113.2.2.1 = bt117.2.2.1 then (some (bt113.2.2.2 == bt117.2.2.2)) else (some false)) else (some false)) else (some false)))
theorem creellaw_ListDays.mono : ∀ a0 k, LeO (creellaw_ListDays.f k a0) (creellaw_ListDays.f (k + 1) a0) := by
  intro a0 k
  unfold creellaw_ListDays.f
  repeat' first
      | (with_reducible exact creelref_DayOf.mono _ _)
      | (with_reducible exact list_Day.mono _ _)
      | (with_reducible exact LeO.refl _)
      | (with_reducible exact LeO.none _)
      | (with_reducible refine LeO.ite ?_ ?_)
      | (with_reducible refine LeO.bind ?_ (fun _ => ?_))
      | exact creelref_DayOf.mono _ _
      | exact list_Day.mono _ _
      | exact LeO.none _
      | refine LeO.ite ?_ ?_
      | refine LeO.bind ?_ (fun _ => ?_)
set_option maxHeartbeats 8000000 in
set_option maxRecDepth 100000 in
theorem creellaw_ListDays.calls (k : Nat) (a0 : Int) (r : Bool) (w : World) (h : creellaw_ListDays.f k a0 = some r) :
    Calls Try.prog 14 #[.int .i64 a0] w fun e w' => e = .returned (.bool r) ∧ Below w.heap.size w w' := by
  have HB := Aside0.mk (Below.refl w.heap.size w)
  have H : ((list_Day.f k a0).bind fun bt113 => ((creelref_DayOf.f k a0).bind fun bt117 => (if bt113.1 = bt117.1 then (if bt113.2.1 = bt117.2.1 then (if bt113.2.2.1 = bt117.2.2.1 then (some (bt113.2.2.2 == bt117.2.2.2)) else (some false)) else (some false)) else (some false)))) = some r := h
  clear h
  replace H := Option.bind_eq_some_iff.mp H
  obtain ⟨⟨t113, t114, t115, t116⟩, A20, H⟩ := H
  replace H : ((creelref_DayOf.f k a0).bind fun bt117 => (if t113 = bt117.1 then (if t114 = bt117.2.1 then (if t115 = bt117.2.2.1 then (some (t116 == bt117.2.2.2)) else (some false)) else (some false)) else (some false))) = some r := H
  have A2 := Aside0.mk A20
  clear A20
  replace H := Option.bind_eq_some_iff.mp H
  obtain ⟨⟨t117, t118, t119, t120⟩, A30, H⟩ := H
  replace H : (if t113 = t117 then (if t114 = t118 then (if t115 = t119 then (some (t116 == t120)) else (some false)) else (some false)) else (some false)) = some r := H
  have A3 := Aside0.mk A30
  clear A30
  by_cases c4 : t113 = t117
  · rw [if_pos c4] at H
    have c4b0 : (t113 == t117) = true := beq_iff_eq.mpr c4
    have c4b1 : (t113 != t117) = false := bne_eq_false_iff_eq.mpr c4
    clear c4
    by_cases c5 : t114 = t118
    · rw [if_pos c5] at H
      have c5b0 : (t114 == t118) = true := beq_iff_eq.mpr c5
      have c5b1 : (t114 != t118) = false := bne_eq_false_iff_eq.mpr c5
      clear c5
      by_cases c6 : t115 = t119
      · rw [if_pos c6] at H
        have c6b0 : (t115 == t119) = true := beq_iff_eq.mpr c6
        have c6b1 : (t115 != t119) = false := bne_eq_false_iff_eq.mpr c6
        clear c6
        obtain rfl := Option.some.inj H
        go_enter Try.func14, Try.ntmps14
        go_wp2_with (first | ((with_reducible refine gate_callee (f := 41) rfl ?_); refine goesL_ (some 13) rfl rfl Try.func41 (by kernel_rfl) rfl #[.int .i64 a0] rfl (by (try simp only [List.map_toArray, List.map_cons, List.map_nil]); first | done | rfl | (simp only [List.length_drop, List.length_take]; rfl)) ?_; (with_reducible refine (list_Day.calls k a0 t113 t114 t115 t116 _ A2.out).mono ?_); rintro e w' ⟨rfl, ⟨nd, rfl⟩⟩; refine ⟨_, rfl, ?_⟩) | ((with_reducible refine gate_callee (f := 42) rfl ?_); refine goesL_ (some 20) rfl rfl Try.func42 (by kernel_rfl) rfl #[.int .i64 a0] rfl (by (try simp only [List.map_toArray, List.map_cons, List.map_nil]); first | done | rfl | (simp only [List.length_drop, List.length_take]; rfl)) ?_; (with_reducible refine (creelref_DayOf.calls k a0 t117 t118 t119 t120 _ A3.out).mono ?_); rintro e w7 ⟨rfl, hb⟩; refine ⟨_, rfl, ?_⟩; have n0_ := Aside0.mk (below_step (by repeat (first | (with_reducible first | exact HB.out | apply below_alloc | apply pw_below_drewN | apply below_drew1) | exact HB.out)) hb); clear HB; have HB := n0_; clear n0_; (try clear hb); (try clear hb2); (try clear hk); (try clear hi)))
        go_ret
        exact ⟨by first | rfl | (simp [errW_none, errW_some] <;> rfl) | (simp [*, errW_none, errW_some] <;> rfl), by repeat (first | (with_reducible first | exact HB.out | apply below_alloc | apply pw_below_drewN | apply below_drew1) | exact HB.out)⟩
      · rw [if_neg c6] at H
        have c6b0 : (t115 == t119) = false := beq_eq_false_iff_ne.mpr c6
        have c6b1 : (t115 != t119) = true := bne_iff_ne.mpr c6
        obtain rfl := Option.some.inj H
        go_enter Try.func14, Try.ntmps14
        go_wp2_with (first | ((with_reducible refine gate_callee (f := 41) rfl ?_); refine goesL_ (some 13) rfl rfl Try.func41 (by kernel_rfl) rfl #[.int .i64 a0] rfl (by (try simp only [List.map_toArray, List.map_cons, List.map_nil]); first | done | rfl | (simp only [List.length_drop, List.length_take]; rfl)) ?_; (with_reducible refine (list_Day.calls k a0 t113 t114 t115 t116 _ A2.out).mono ?_); rintro e w' ⟨rfl, ⟨nd, rfl⟩⟩; refine ⟨_, rfl, ?_⟩) | ((with_reducible refine gate_callee (f := 42) rfl ?_); refine goesL_ (some 20) rfl rfl Try.func42 (by kernel_rfl) rfl #[.int .i64 a0] rfl (by (try simp only [List.map_toArray, List.map_cons, List.map_nil]); first | done | rfl | (simp only [List.length_drop, List.length_take]; rfl)) ?_; (with_reducible refine (creelref_DayOf.calls k a0 t117 t118 t119 t120 _ A3.out).mono ?_); rintro e w8 ⟨rfl, hb⟩; refine ⟨_, rfl, ?_⟩; have n0_ := Aside0.mk (below_step (by repeat (first | (with_reducible first | exact HB.out | apply below_alloc | apply pw_below_drewN | apply below_drew1) | exact HB.out)) hb); clear HB; have HB := n0_; clear n0_; (try clear hb); (try clear hb2); (try clear hk); (try clear hi)))
        go_ret
        exact ⟨by first | rfl | (simp [errW_none, errW_some] <;> rfl) | (simp [*, errW_none, errW_some] <;> rfl), by repeat (first | (with_reducible first | exact HB.out | apply below_alloc | apply pw_below_drewN | apply below_drew1) | exact HB.out)⟩
    · rw [if_neg c5] at H
      have c5b0 : (t114 == t118) = false := beq_eq_false_iff_ne.mpr c5
      have c5b1 : (t114 != t118) = true := bne_iff_ne.mpr c5
      obtain rfl := Option.some.inj H
      go_enter Try.func14, Try.ntmps14
      go_wp2_with (first | ((with_reducible refine gate_callee (f := 41) rfl ?_); refine goesL_ (some 13) rfl rfl Try.func41 (by kernel_rfl) rfl #[.int .i64 a0] rfl (by (try simp only [List.map_toArray, List.map_cons, List.map_nil]); first | done | rfl | (simp only [List.length_drop, List.length_take]; rfl)) ?_; (with_reducible refine (list_Day.calls k a0 t113 t114 t115 t116 _ A2.out).mono ?_); rintro e w' ⟨rfl, ⟨nd, rfl⟩⟩; refine ⟨_, rfl, ?_⟩) | ((with_reducible refine gate_callee (f := 42) rfl ?_); refine goesL_ (some 20) rfl rfl Try.func42 (by kernel_rfl) rfl #[.int .i64 a0] rfl (by (try simp only [List.map_toArray, List.map_cons, List.map_nil]); first | done | rfl | (simp only [List.length_drop, List.length_take]; rfl)) ?_; (with_reducible refine (creelref_DayOf.calls k a0 t117 t118 t119 t120 _ A3.out).mono ?_); rintro e w9 ⟨rfl, hb⟩; refine ⟨_, rfl, ?_⟩; have n0_ := Aside0.mk (below_step (by repeat (first | (with_reducible first | exact HB.out | apply below_alloc | apply pw_below_drewN | apply below_drew1) | exact HB.out)) hb); clear HB; have HB := n0_; clear n0_; (try clear hb); (try clear hb2); (try clear hk); (try clear hi)))
      go_ret
      exact ⟨by first | rfl | (simp [errW_none, errW_some] <;> rfl) | (simp [*, errW_none, errW_some] <;> rfl), by repeat (first | (with_reducible first | exact HB.out | apply below_alloc | apply pw_below_drewN | apply below_drew1) | exact HB.out)⟩
  · rw [if_neg c4] at H
    have c4b0 : (t113 == t117) = false := beq_eq_false_iff_ne.mpr c4
    have c4b1 : (t113 != t117) = true := bne_iff_ne.mpr c4
    obtain rfl := Option.some.inj H
    go_enter Try.func14, Try.ntmps14
    go_wp2_with (first | ((with_reducible refine gate_callee (f := 41) rfl ?_); refine goesL_ (some 13) rfl rfl Try.func41 (by kernel_rfl) rfl #[.int .i64 a0] rfl (by (try simp only [List.map_toArray, List.map_cons, List.map_nil]); first | done | rfl | (simp only [List.length_drop, List.length_take]; rfl)) ?_; (with_reducible refine (list_Day.calls k a0 t113 t114 t115 t116 _ A2.out).mono ?_); rintro e w' ⟨rfl, ⟨nd, rfl⟩⟩; refine ⟨_, rfl, ?_⟩) | ((with_reducible refine gate_callee (f := 42) rfl ?_); refine goesL_ (some 20) rfl rfl Try.func42 (by kernel_rfl) rfl #[.int .i64 a0] rfl (by (try simp only [List.map_toArray, List.map_cons, List.map_nil]); first | done | rfl | (simp only [List.length_drop, List.length_take]; rfl)) ?_; (with_reducible refine (creelref_DayOf.calls k a0 t117 t118 t119 t120 _ A3.out).mono ?_); rintro e w10 ⟨rfl, hb⟩; refine ⟨_, rfl, ?_⟩; have n0_ := Aside0.mk (below_step (by repeat (first | (with_reducible first | exact HB.out | apply below_alloc | apply pw_below_drewN | apply below_drew1) | exact HB.out)) hb); clear HB; have HB := n0_; clear n0_; (try clear hb); (try clear hb2); (try clear hk); (try clear hi)))
    go_ret
    exact ⟨by first | rfl | (simp [errW_none, errW_some] <;> rfl) | (simp [*, errW_none, errW_some] <;> rfl), by repeat (first | (with_reducible first | exact HB.out | apply below_alloc | apply pw_below_drewN | apply below_drew1) | exact HB.out)⟩

/-- THE ONE PURE STATEMENT of creellaw_ListDays: yours. -/
def creellaw_ListDays.Pure : Prop := ∀ (a0 : Int), (Lit.int .i64 a0).wf = true → ∃ k, creellaw_ListDays.f k a0 = some true
theorem creellaw_ListDays.walk (P : creellaw_ListDays.Pure) (a0 : Int) (w : World) (w0 : (Lit.int .i64 a0).wf = true) :
    Calls Try.prog 14 #[.int .i64 a0] w fun e w' => e = .returned (.bool true) ∧ Below w.heap.size w w' := by
  obtain ⟨k, h⟩ := P a0 w0
  refine (creellaw_ListDays.calls k a0 true w h).mono ?_
  rintro e w' ⟨rfl, hd⟩
  exact ⟨rfl, hd⟩

end Go.Proofs.Ytpokjdkckdajeaa.PListDays
