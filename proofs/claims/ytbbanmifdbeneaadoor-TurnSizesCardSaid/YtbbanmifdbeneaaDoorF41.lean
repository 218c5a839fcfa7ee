import Derived.Test.YtbbanmifdbeneaaDoorF34
set_option linter.all false
namespace Go.Proofs.YtbbanmifdbeneaaDoor
def upS (week from_ long h:Int):Int:=h-zb0 week from_ long h
def onF (h:Int) (x:Int×Int):Bool:=decide (x.1≤h∧h≤x.2)
def Dit.runs (d:Dit) (h:Int):Bool:=decide (d.begin_≤h) && decide (upS d.week d.from_ d.long (h+1)=upS d.week d.from_ d.long h+1) && !(d.feasts.any (onF h))
end Go.Proofs.YtbbanmifdbeneaaDoor
