/- Signatures and terms, as values of the evaluator. -/
import Derived.Test.YtekepgfmgeophaaGreatPartAE
set_option linter.unusedVariables false
set_option linter.unusedSimpArgs false
namespace Go.Proofs.Tryz
open Go Go.AE
structure GOp where
 name:ByteArray
 args:List Int
 res:Int
structure GSig where
 sorts:List ByteArray
 ops:List GOp
def encI(n:Int):PV:=.int .i64 n
def qao(o:GOp):PV:=.agg [.str o.name,.slice 1 (o.args.map encI) .any,.int .i64 o.res]
def qaf(s:GSig):PV:=.agg [.slice 1 (s.sorts.map .str) .any,.slice 3 (s.ops.map qao) .any]
def arr(x:List Int):PV:=.agg (x.map encI)
end Go.Proofs.Tryz
