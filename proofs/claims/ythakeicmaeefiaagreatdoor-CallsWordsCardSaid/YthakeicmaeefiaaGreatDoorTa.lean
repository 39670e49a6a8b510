/- The evaluator's table: the functions and how their texts are read. -/
import Derived.Test.YthakeicmaeefiaaGreatDoorEv
import Derived.Test.YthakeicmaeefiaaGreatDoorGa
import Derived.Test.YthakeicmaeefiaaGreatDoorGb
import Derived.Test.YthakeicmaeefiaaGreatDoorGc
import Derived.Test.YthakeicmaeefiaaGreatDoorGd
import Derived.Test.YthakeicmaeefiaaGreatDoorGe
import Derived.Test.YthakeicmaeefiaaGreatDoorGl
set_option linter.unusedVariables false
set_option linter.unusedSimpArgs false
namespace Go.Proofs.YthakeicmaeefiaaGreatDoor
open Go Go.Sh Go.Ev Go.Proofs
set_option maxRecDepth 100000

@[noinline] def fuOf (f : Func) (pl : Pl) : Option Fu := f.body.map fun b => ⟨f.ntmps, b, pl, f.results.toList⟩
noncomputable def tab : FuncId → Option Fu
  | 3 => fuOf Tryz.f3 pl3
  | 4 => fuOf Tryz.f4 pl4
  | 5 => fuOf Tryz.f5 pl5
  | 6 => fuOf Tryz.f6 pl6
  | 7 => fuOf Tryz.f7 pl7
  | 8 => fuOf Tryz.f8 pl8
  | 9 => fuOf Tryz.f9 pl9
  | 10 => fuOf Tryz.f10 pl10
  | 11 => fuOf Tryz.f11 pl11
  | 12 => fuOf Tryz.f12 pl12
  | 13 => fuOf Tryz.f13 pl13
  | 14 => fuOf Tryz.f14 pl14
  | 15 => fuOf Tryz.f15 pl15
  | 16 => fuOf Tryz.f16 pl16
  | 17 => fuOf Tryz.f17 pl17
  | 18 => fuOf Tryz.f18 pl18
  | 19 => fuOf Tryz.f19 pl19
  | 20 => fuOf Tryz.f20 pl20
  | 21 => fuOf Tryz.f21 pl21
  | 22 => fuOf Tryz.f22 pl22
  | 23 => fuOf Tryz.f23 pl23
  | 24 => fuOf Tryz.f24 pl24
  | 25 => fuOf Tryz.f25 pl25
  | 26 => fuOf Tryz.f26 pl26
  | 27 => fuOf Tryz.f27 pl27
  | 28 => fuOf Tryz.f28 pl28
  | 29 => fuOf Tryz.f29 pl29
  | 30 => fuOf Tryz.f30 pl30
  | 31 => fuOf Tryz.f31 pl31
  | 32 => fuOf Tryz.f32 pl32
  | 33 => fuOf Tryz.f33 pl33
  | 34 => fuOf Tryz.f34 pl34
  | 35 => fuOf Tryz.f35 pl35
  | 36 => fuOf Tryz.f36 pl36
  | 37 => fuOf Tryz.f37 pl37
  | 38 => fuOf Tryz.f38 pl38
  | 39 => fuOf Tryz.f39 pl39
  | 40 => fuOf Tryz.f40 pl40
  | 41 => fuOf Tryz.f41 pl41
  | 42 => fuOf Tryz.f42 pl42
  | 43 => fuOf Tryz.f43 pl43
  | 44 => fuOf Tryz.f44 pl44
  | 45 => fuOf Tryz.f45 pl45
  | 46 => fuOf Tryz.f46 pl46
  | 47 => fuOf Tryz.f47 pl47
  | 48 => fuOf Tryz.f48 pl48
  | 49 => fuOf Tryz.f49 pl49
  | 50 => fuOf Tryz.f50 pl50
  | 51 => fuOf Tryz.f51 pl51
  | 52 => fuOf Tryz.f52 pl52
  | 53 => fuOf Tryz.f53 pl53
  | 54 => fuOf Tryz.f54 pl54
  | 55 => fuOf Tryz.f55 pl55
  | 56 => fuOf Tryz.f56 pl56
  | 57 => fuOf Tryz.f57 pl57
  | 58 => fuOf Tryz.f58 pl58
  | 59 => fuOf Tryz.f59 pl59
  | 60 => fuOf Tryz.f60 pl60
  | 61 => fuOf Tryz.f61 pl61
  | 62 => fuOf Tryz.f62 pl62
  | 63 => fuOf Tryz.f63 pl63
  | 64 => fuOf Tryz.f64 pl64
  | 65 => fuOf Tryz.f65 pl65
  | 66 => fuOf Tryz.f66 pl66
  | 67 => fuOf Tryz.f67 pl67
  | 68 => fuOf Tryz.f68 pl68
  | 69 => fuOf Tryz.f69 pl69
  | 70 => fuOf Tryz.f70 pl70
  | 71 => fuOf Tryz.f71 pl71
  | 72 => fuOf Tryz.f72 pl72
  | 73 => fuOf Tryz.f73 pl73
  | 74 => fuOf Tryz.f74 pl74
  | 75 => fuOf Tryz.f75 pl75
  | 76 => fuOf Tryz.f76 pl76
  | 77 => fuOf Tryz.f77 pl77
  | 78 => fuOf Tryz.f78 pl78
  | 79 => fuOf Tryz.f79 pl79
  | 80 => fuOf Tryz.f80 pl80
  | 81 => fuOf Tryz.f81 pl81
  | 82 => fuOf Tryz.f82 pl82
  | 83 => fuOf Tryz.f83 pl83
  | 84 => fuOf Tryz.f84 pl84
  | 85 => fuOf Tryz.f85 pl85
  | 86 => fuOf Tryz.f86 pl86
  | 87 => fuOf Tryz.f87 pl87
  | 88 => fuOf Tryz.f88 pl88
  | 89 => fuOf Tryz.f89 pl89
  | 90 => fuOf Tryz.f90 pl90
  | 91 => fuOf Tryz.f91 pl91
  | 92 => fuOf Tryz.f92 pl92
  | 93 => fuOf Tryz.f93 pl93
  | 94 => fuOf Tryz.f94 pl94
  | 95 => fuOf Tryz.f95 pl95
  | 96 => fuOf Tryz.f96 pl96
  | 97 => fuOf Tryz.f97 pl97
  | 98 => fuOf Tryz.f98 pl98
  | 99 => fuOf Tryz.f99 pl99
  | 101 => fuOf Tryz.f101 pl101
  | 102 => fuOf Tryz.f102 pl102
  | 103 => fuOf Tryz.f103 pl103
  | 104 => fuOf Tryz.f104 pl104
  | 105 => fuOf Tryz.f105 pl105
  | 106 => fuOf Tryz.f106 pl106
  | 107 => fuOf Tryz.f107 pl107
  | 108 => fuOf Tryz.f108 pl108
  | 109 => fuOf Tryz.f109 pl109
  | 110 => fuOf Tryz.f110 pl110
  | 111 => fuOf Tryz.f111 pl111
  | 112 => fuOf Tryz.f112 pl112
  | 114 => fuOf Tryz.f114 pl114
  | 115 => fuOf Tryz.f115 pl115
  | 117 => fuOf Tryz.f117 pl117
  | 118 => fuOf Tryz.f118 pl118
  | 120 => fuOf Tryz.f120 pl120
  | 121 => fuOf Tryz.f121 pl121
  | 122 => fuOf Tryz.f122 pl122
  | 123 => fuOf Tryz.f123 pl123
  | 124 => fuOf Tryz.f124 pl124
  | 125 => fuOf Tryz.f125 pl125
  | 126 => fuOf Tryz.f126 pl126
  | 127 => fuOf Tryz.f127 pl127
  | 129 => fuOf Tryz.f129 pl129
  | 130 => fuOf Tryz.f130 pl130
  | _ => none
end Go.Proofs.YthakeicmaeefiaaGreatDoor
