/- All entries: each by those that it needs. -/
import Derived.Test.YtgbeenpchkneiaaGreatDoorQ0
import Derived.Test.YtgbeenpchkneiaaGreatDoorQ1
import Derived.Test.YtgbeenpchkneiaaGreatDoorQ2
import Derived.Test.YtgbeenpchkneiaaGreatDoorQ3
import Derived.Test.YtgbeenpchkneiaaGreatDoorQ4
import Derived.Test.YtgbeenpchkneiaaGreatDoorQ5
import Derived.Test.YtgbeenpchkneiaaGreatDoorQ6
import Derived.Test.YtgbeenpchkneiaaGreatDoorQ7
import Derived.Test.YtgbeenpchkneiaaGreatDoorQ8
import Derived.Test.YtgbeenpchkneiaaGreatDoorQ9
import Derived.Test.YtgbeenpchkneiaaGreatDoorQ10
import Derived.Test.YtgbeenpchkneiaaGreatDoorQ11
import Derived.Test.YtgbeenpchkneiaaGreatDoorQ12
import Derived.Test.YtgbeenpchkneiaaGreatDoorQ13
import Derived.Test.YtgbeenpchkneiaaGreatDoorQ14
import Derived.Test.YtgbeenpchkneiaaGreatDoorQ15
import Derived.Test.YtgbeenpchkneiaaGreatDoorQ16
import Derived.Test.YtgbeenpchkneiaaGreatDoorQ17
import Derived.Test.YtgbeenpchkneiaaGreatDoorQ18
import Derived.Test.YtgbeenpchkneiaaGreatDoorQ19
import Derived.Test.YtgbeenpchkneiaaGreatDoorQ20
import Derived.Test.YtgbeenpchkneiaaGreatDoorQ21
import Derived.Test.YtgbeenpchkneiaaGreatDoorQ22
import Derived.Test.YtgbeenpchkneiaaGreatDoorQ23
namespace Go.Am
open Go Go.Proofs
theorem mixed : Tryz.prog.follows .mixedOrders = true := by decide +kernel
theorem all_nil : ∀ e ∈ ([] : List En), EnOk Tryz.prog e := fun e h => by cases h
theorem all_cons {e : En} {l : List En} (h : EnOk Tryz.prog e) (hl : ∀ e ∈ l, EnOk Tryz.prog e) : ∀ x ∈ e :: l, EnOk Tryz.prog x := List.forall_mem_cons.2 ⟨h, hl⟩
theorem k0 : EnOk Tryz.prog e0 := en_ok mixed all_nil (fun _ _ h => h) c0
theorem k1 : EnOk Tryz.prog e1 := en_ok mixed all_nil (fun _ _ h => h) c1
theorem k2 : EnOk Tryz.prog e2 := en_ok mixed all_nil (fun _ _ h => h) c2
theorem k3 : EnOk Tryz.prog e3 := en_ok mixed all_nil (fun _ _ h => h) c3
theorem k4 : EnOk Tryz.prog e4 := en_ok mixed (all_cons k2 (all_cons k3 all_nil)) (fun _ _ h => h) c4
theorem k5 : EnOk Tryz.prog e5 := en_ok mixed all_nil (fun _ _ h => h) c5
theorem k6 : EnOk Tryz.prog e6 := en_ok mixed (all_cons k5 all_nil) (fun _ _ h => h) c6
theorem k7 : EnOk Tryz.prog e7 := en_ok mixed all_nil (fun _ _ h => h) c7
theorem k8 : EnOk Tryz.prog e8 := en_ok mixed all_nil (fun _ _ h => h) c8
theorem k9 : EnOk Tryz.prog e9 := en_ok mixed all_nil (fun _ _ h => h) c9
theorem k10 : EnOk Tryz.prog e10 := en_ok mixed all_nil (fun _ _ h => h) c10
theorem k11 : EnOk Tryz.prog e11 := en_ok mixed (all_cons k7 (all_cons k8 (all_cons k9 (all_cons k10 all_nil)))) (fun _ _ h => h) c11
theorem k12 : EnOk Tryz.prog e12 := en_ok mixed all_nil (fun _ _ h => h) c12
theorem k13 : EnOk Tryz.prog e13 := en_ok mixed (all_cons k2 (all_cons k5 all_nil)) (fun _ _ h => h) c13
theorem k14 : EnOk Tryz.prog e14 := en_ok mixed all_nil (fun _ _ h => h) c14
theorem k15 : EnOk Tryz.prog e15 := en_ok mixed (all_cons k14 all_nil) (fun _ _ h => h) c15
theorem k16 : EnOk Tryz.prog e16 := en_ok mixed all_nil (fun _ _ h => h) c16
theorem k17 : EnOk Tryz.prog e17 := en_ok mixed (all_cons k7 (all_cons k10 (all_cons k9 (all_cons k8 (all_cons k16 all_nil))))) (fun _ _ h => h) c17
theorem k18 : EnOk Tryz.prog e18 := en_ok mixed all_nil (fun _ _ h => h) c18
theorem k19 : EnOk Tryz.prog e19 := en_ok mixed (all_cons k7 (all_cons k3 all_nil)) (fun _ _ h => h) c19
theorem k20 : EnOk Tryz.prog e20 := en_ok mixed (all_cons k5 all_nil) (fun _ _ h => h) c20
theorem k21 : EnOk Tryz.prog e21 := en_ok mixed all_nil (fun _ _ h => h) c21
theorem k22 : EnOk Tryz.prog e22 := en_ok mixed all_nil (fun _ _ h => h) c22
theorem k23 : EnOk Tryz.prog e23 := en_ok mixed (all_cons k9 (all_cons k21 (all_cons k22 (all_cons k10 all_nil)))) (fun _ _ h => h) c23
theorem k24 : EnOk Tryz.prog e24 := en_ok mixed all_nil (fun _ _ h => h) c24
theorem k25 : EnOk Tryz.prog e25 := en_ok mixed (all_cons k9 (all_cons k3 all_nil)) (fun _ _ h => h) c25
theorem k26 : EnOk Tryz.prog e26 := en_ok mixed all_nil (fun _ _ h => h) c26
theorem k27 : EnOk Tryz.prog e27 := en_ok mixed (all_cons k26 all_nil) (fun _ _ h => h) c27
theorem k28 : EnOk Tryz.prog e28 := en_ok mixed all_nil (fun _ _ h => h) c28
theorem k29 : EnOk Tryz.prog e29 := en_ok mixed all_nil (fun _ _ h => h) c29
theorem k30 : EnOk Tryz.prog e30 := en_ok mixed (all_cons k29 all_nil) (fun _ _ h => h) c30
theorem k31 : EnOk Tryz.prog e31 := en_ok mixed (all_cons k30 all_nil) (fun _ _ h => h) c31
theorem k32 : EnOk Tryz.prog e32 := en_ok mixed (all_cons k31 all_nil) (fun _ _ h => h) c32
theorem k33 : EnOk Tryz.prog e33 := en_ok mixed (all_cons k9 (all_cons k5 all_nil)) (fun _ _ h => h) c33
theorem k34 : EnOk Tryz.prog e34 := en_ok mixed (all_cons k26 all_nil) (fun _ _ h => h) c34
theorem k35 : EnOk Tryz.prog e35 := en_ok mixed all_nil (fun _ _ h => h) c35
theorem k36 : EnOk Tryz.prog e36 := en_ok mixed all_nil (fun _ _ h => h) c36
theorem k37 : EnOk Tryz.prog e37 := en_ok mixed (all_cons k36 all_nil) (fun _ _ h => h) c37
theorem k38 : EnOk Tryz.prog e38 := en_ok mixed (all_cons k37 all_nil) (fun _ _ h => h) c38
theorem k39 : EnOk Tryz.prog e39 := en_ok mixed (all_cons k38 all_nil) (fun _ _ h => h) c39
theorem k40 : EnOk Tryz.prog e40 := en_ok mixed (all_cons k16 (all_cons k3 all_nil)) (fun _ _ h => h) c40
theorem k41 : EnOk Tryz.prog e41 := en_ok mixed (all_cons k26 all_nil) (fun _ _ h => h) c41
theorem k42 : EnOk Tryz.prog e42 := en_ok mixed all_nil (fun _ _ h => h) c42
theorem k43 : EnOk Tryz.prog e43 := en_ok mixed all_nil (fun _ _ h => h) c43
theorem k44 : EnOk Tryz.prog e44 := en_ok mixed (all_cons k22 (all_cons k3 all_nil)) (fun _ _ h => h) c44
theorem k45 : EnOk Tryz.prog e45 := en_ok mixed all_nil (fun _ _ h => h) c45
theorem k46 : EnOk Tryz.prog e46 := en_ok mixed (all_cons k45 all_nil) (fun _ _ h => h) c46
theorem k47 : EnOk Tryz.prog e47 := en_ok mixed all_nil (fun _ _ h => h) c47
theorem k48 : EnOk Tryz.prog e48 := en_ok mixed all_nil (fun _ _ h => h) c48
theorem k49 : EnOk Tryz.prog e49 := en_ok mixed all_nil (fun _ _ h => h) c49
theorem k50 : EnOk Tryz.prog e50 := en_ok mixed all_nil (fun _ _ h => h) c50
theorem k51 : EnOk Tryz.prog e51 := en_ok mixed all_nil (fun _ _ h => h) c51
theorem k52 : EnOk Tryz.prog e52 := en_ok mixed all_nil (fun _ _ h => h) c52
theorem k53 : EnOk Tryz.prog e53 := en_ok mixed all_nil (fun _ _ h => h) c53
theorem k54 : EnOk Tryz.prog e54 := en_ok mixed all_nil (fun _ _ h => h) c54
theorem k55 : EnOk Tryz.prog e55 := en_ok mixed all_nil (fun _ _ h => h) c55
theorem k56 : EnOk Tryz.prog e56 := en_ok mixed all_nil (fun _ _ h => h) c56
theorem k57 : EnOk Tryz.prog e57 := en_ok mixed all_nil (fun _ _ h => h) c57
theorem k58 : EnOk Tryz.prog e58 := en_ok mixed all_nil (fun _ _ h => h) c58
theorem k59 : EnOk Tryz.prog e59 := en_ok mixed all_nil (fun _ _ h => h) c59
theorem k60 : EnOk Tryz.prog e60 := en_ok mixed all_nil (fun _ _ h => h) c60
theorem k61 : EnOk Tryz.prog e61 := en_ok mixed all_nil (fun _ _ h => h) c61
theorem k62 : EnOk Tryz.prog e62 := en_ok mixed all_nil (fun _ _ h => h) c62
theorem k63 : EnOk Tryz.prog e63 := en_ok mixed all_nil (fun _ _ h => h) c63
theorem k64 : EnOk Tryz.prog e64 := en_ok mixed (all_cons k1 (all_cons k4 (all_cons k6 (all_cons k11 (all_cons k12 (all_cons k13 (all_cons k15 (all_cons k17 (all_cons k18 (all_cons k19 (all_cons k20 (all_cons k23 (all_cons k24 (all_cons k25 (all_cons k27 (all_cons k28 (all_cons k32 (all_cons k33 (all_cons k34 (all_cons k35 (all_cons k39 (all_cons k40 (all_cons k41 (all_cons k42 (all_cons k43 (all_cons k44 (all_cons k46 (all_cons k47 (all_cons k48 (all_cons k49 (all_cons k50 (all_cons k51 (all_cons k52 (all_cons k53 (all_cons k54 (all_cons k55 (all_cons k56 (all_cons k57 (all_cons k58 (all_cons k59 (all_cons k60 (all_cons k61 (all_cons k62 (all_cons k63 all_nil)))))))))))))))))))))))))))))))))))))))))))) (fun _ _ h => h) c64
theorem k65 : EnOk Tryz.prog e65 := en_ok mixed all_nil (fun _ _ h => h) c65
theorem k66 : EnOk Tryz.prog e66 := en_ok mixed all_nil (fun _ _ h => h) c66
theorem k67 : EnOk Tryz.prog e67 := en_ok mixed (all_cons k65 (all_cons k66 all_nil)) (fun _ _ h => h) c67
theorem k68 : EnOk Tryz.prog e68 := en_ok mixed all_nil (fun _ _ h => h) c68
theorem k69 : EnOk Tryz.prog e69 := en_ok mixed all_nil (fun _ _ h => h) c69
theorem k70 : EnOk Tryz.prog e70 := en_ok mixed (all_cons k69 all_nil) (fun _ _ h => h) c70
theorem k71 : EnOk Tryz.prog e71 := en_ok mixed all_nil (fun _ _ h => h) c71
theorem k72 : EnOk Tryz.prog e72 := en_ok mixed all_nil (fun _ _ h => h) c72
theorem k73 : EnOk Tryz.prog e73 := en_ok mixed all_nil (fun _ _ h => h) c73
theorem k74 : EnOk Tryz.prog e74 := en_ok mixed (all_cons k1 (all_cons k4 (all_cons k6 (all_cons k11 (all_cons k12 (all_cons k13 (all_cons k15 (all_cons k17 (all_cons k18 (all_cons k19 (all_cons k20 (all_cons k23 (all_cons k24 (all_cons k25 (all_cons k27 (all_cons k28 (all_cons k32 (all_cons k33 (all_cons k34 (all_cons k35 (all_cons k39 (all_cons k40 (all_cons k41 (all_cons k42 (all_cons k43 (all_cons k44 (all_cons k46 (all_cons k47 (all_cons k48 (all_cons k49 (all_cons k50 (all_cons k51 (all_cons k52 (all_cons k53 (all_cons k54 (all_cons k55 (all_cons k56 (all_cons k57 (all_cons k58 (all_cons k59 (all_cons k60 (all_cons k61 (all_cons k62 (all_cons k63 (all_cons k71 (all_cons k72 (all_cons k73 all_nil))))))))))))))))))))))))))))))))))))))))))))))) (fun _ _ h => h) c74
theorem k75 : EnOk Tryz.prog e75 := en_ok mixed (all_cons k74 all_nil) (fun _ _ h => h) c75
theorem k76 : EnOk Tryz.prog e76 := en_ok mixed all_nil (fun _ _ h => h) c76
theorem k77 : EnOk Tryz.prog e77 := en_ok mixed all_nil (fun _ _ h => h) c77
theorem k78 : EnOk Tryz.prog e78 := en_ok mixed all_nil (fun _ _ h => h) c78
theorem k79 : EnOk Tryz.prog e79 := en_ok mixed all_nil (fun _ _ h => h) c79
theorem k80 : EnOk Tryz.prog e80 := en_ok mixed all_nil (fun _ _ h => h) c80
theorem k81 : EnOk Tryz.prog e81 := en_ok mixed all_nil (fun _ _ h => h) c81
theorem k82 : EnOk Tryz.prog e82 := en_ok mixed (all_cons k80 (all_cons k81 all_nil)) (fun _ _ h => h) c82
theorem k83 : EnOk Tryz.prog e83 := en_ok mixed all_nil (fun _ _ h => h) c83
theorem k84 : EnOk Tryz.prog e84 := en_ok mixed all_nil (fun _ _ h => h) c84
theorem k85 : EnOk Tryz.prog e85 := en_ok mixed (all_cons k84 all_nil) (fun _ _ h => h) c85
theorem k86 : EnOk Tryz.prog e86 := en_ok mixed all_nil (fun _ _ h => h) c86
theorem k87 : EnOk Tryz.prog e87 := en_ok mixed all_nil (fun _ _ h => h) c87
theorem k88 : EnOk Tryz.prog e88 := en_ok mixed all_nil (fun _ _ h => h) c88
theorem k89 : EnOk Tryz.prog e89 := en_ok mixed (all_cons k1 (all_cons k4 (all_cons k6 (all_cons k11 (all_cons k12 (all_cons k13 (all_cons k15 (all_cons k17 (all_cons k18 (all_cons k19 (all_cons k20 (all_cons k23 (all_cons k24 (all_cons k25 (all_cons k27 (all_cons k28 (all_cons k32 (all_cons k33 (all_cons k34 (all_cons k35 (all_cons k39 (all_cons k40 (all_cons k41 (all_cons k42 (all_cons k43 (all_cons k44 (all_cons k46 (all_cons k47 (all_cons k48 (all_cons k49 (all_cons k50 (all_cons k51 (all_cons k52 (all_cons k53 (all_cons k54 (all_cons k55 (all_cons k56 (all_cons k57 (all_cons k58 (all_cons k59 (all_cons k60 (all_cons k61 (all_cons k62 (all_cons k63 (all_cons k86 (all_cons k87 (all_cons k88 all_nil))))))))))))))))))))))))))))))))))))))))))))))) (fun _ _ h => h) c89
theorem k90 : EnOk Tryz.prog e90 := en_ok mixed (all_cons k89 all_nil) (fun _ _ h => h) c90
theorem k91 : EnOk Tryz.prog e91 := en_ok mixed all_nil (fun _ _ h => h) c91
theorem k92 : EnOk Tryz.prog e92 := en_ok mixed all_nil (fun _ _ h => h) c92
theorem k93 : EnOk Tryz.prog e93 := en_ok mixed all_nil (fun _ _ h => h) c93
theorem k94 : EnOk Tryz.prog e94 := en_ok mixed all_nil (fun _ _ h => h) c94
theorem k95 : EnOk Tryz.prog e95 := en_ok mixed (all_cons k64 (all_cons k67 (all_cons k68 (all_cons k70 (all_cons k75 (all_cons k76 (all_cons k77 (all_cons k78 (all_cons k79 (all_cons k82 (all_cons k83 (all_cons k85 (all_cons k90 (all_cons k91 (all_cons k92 (all_cons k93 (all_cons k94 all_nil))))))))))))))))) (fun _ _ h => h) c95
theorem k96 : EnOk Tryz.prog e96 := en_ok mixed (all_cons k1 (all_cons k4 (all_cons k6 (all_cons k11 (all_cons k12 (all_cons k13 (all_cons k15 (all_cons k17 (all_cons k18 (all_cons k19 (all_cons k20 (all_cons k23 (all_cons k24 (all_cons k25 (all_cons k27 (all_cons k28 (all_cons k32 (all_cons k33 (all_cons k34 (all_cons k35 (all_cons k39 (all_cons k40 (all_cons k41 (all_cons k42 (all_cons k43 (all_cons k44 (all_cons k46 (all_cons k47 (all_cons k48 (all_cons k49 (all_cons k50 (all_cons k51 (all_cons k52 (all_cons k53 (all_cons k54 (all_cons k55 (all_cons k56 (all_cons k57 (all_cons k58 (all_cons k59 (all_cons k60 (all_cons k61 (all_cons k62 (all_cons k63 all_nil)))))))))))))))))))))))))))))))))))))))))))) (fun _ _ h => h) c96
theorem k97 : EnOk Tryz.prog e97 := en_ok mixed all_nil (fun _ _ h => h) c97
theorem k98 : EnOk Tryz.prog e98 := en_ok mixed (all_cons k1 (all_cons k4 (all_cons k6 (all_cons k11 (all_cons k12 (all_cons k13 (all_cons k15 (all_cons k17 (all_cons k18 (all_cons k19 (all_cons k20 (all_cons k23 (all_cons k24 (all_cons k25 (all_cons k27 (all_cons k28 (all_cons k32 (all_cons k33 (all_cons k34 (all_cons k35 (all_cons k39 (all_cons k40 (all_cons k41 (all_cons k42 (all_cons k43 (all_cons k44 (all_cons k46 (all_cons k47 (all_cons k48 (all_cons k49 (all_cons k50 (all_cons k51 (all_cons k52 (all_cons k53 (all_cons k54 (all_cons k55 (all_cons k56 (all_cons k57 (all_cons k58 (all_cons k59 (all_cons k60 (all_cons k61 (all_cons k62 (all_cons k63 all_nil)))))))))))))))))))))))))))))))))))))))))))) (fun _ _ h => h) c98
theorem k99 : EnOk Tryz.prog e99 := en_ok mixed all_nil (fun _ _ h => h) c99
theorem k100 : EnOk Tryz.prog e100 := en_ok mixed all_nil (fun _ _ h => h) c100
theorem k101 : EnOk Tryz.prog e101 := en_ok mixed (all_cons k1 (all_cons k4 (all_cons k6 (all_cons k11 (all_cons k12 (all_cons k13 (all_cons k15 (all_cons k17 (all_cons k18 (all_cons k19 (all_cons k20 (all_cons k23 (all_cons k24 (all_cons k25 (all_cons k27 (all_cons k28 (all_cons k32 (all_cons k33 (all_cons k34 (all_cons k35 (all_cons k39 (all_cons k40 (all_cons k41 (all_cons k42 (all_cons k43 (all_cons k44 (all_cons k46 (all_cons k47 (all_cons k48 (all_cons k49 (all_cons k50 (all_cons k51 (all_cons k52 (all_cons k53 (all_cons k54 (all_cons k55 (all_cons k56 (all_cons k57 (all_cons k58 (all_cons k59 (all_cons k60 (all_cons k61 (all_cons k62 (all_cons k63 (all_cons k71 (all_cons k100 all_nil)))))))))))))))))))))))))))))))))))))))))))))) (fun _ _ h => h) c101
theorem k102 : EnOk Tryz.prog e102 := en_ok mixed (all_cons k101 all_nil) (fun _ _ h => h) c102
theorem k103 : EnOk Tryz.prog e103 := en_ok mixed all_nil (fun _ _ h => h) c103
theorem k104 : EnOk Tryz.prog e104 := en_ok mixed (all_cons k95 (all_cons k96 (all_cons k97 (all_cons k98 (all_cons k99 (all_cons k102 (all_cons k103 all_nil))))))) (fun _ _ h => h) c104
theorem k105 : EnOk Tryz.prog e105 := en_ok mixed (all_cons k95 all_nil) (fun _ _ h => h) c105
theorem k106 : EnOk Tryz.prog e106 := en_ok mixed all_nil (fun _ _ h => h) c106
theorem k107 : EnOk Tryz.prog e107 := en_ok mixed (all_cons k104 (all_cons k105 (all_cons k106 all_nil))) (fun _ _ h => h) c107
theorem k108 : EnOk Tryz.prog e108 := en_ok mixed all_nil (fun _ _ h => h) c108
theorem k109 : EnOk Tryz.prog e109 := en_ok mixed all_nil (fun _ _ h => h) c109
theorem k110 : EnOk Tryz.prog e110 := en_ok mixed all_nil (fun _ _ h => h) c110
theorem k111 : EnOk Tryz.prog e111 := en_ok mixed (all_cons k64 (all_cons k67 (all_cons k68 (all_cons k70 (all_cons k75 (all_cons k76 (all_cons k77 (all_cons k78 (all_cons k79 (all_cons k82 (all_cons k83 (all_cons k85 (all_cons k90 (all_cons k91 (all_cons k92 (all_cons k93 (all_cons k94 (all_cons k109 (all_cons k110 all_nil))))))))))))))))))) (fun _ _ h => h) c111
theorem k112 : EnOk Tryz.prog e112 := en_ok mixed all_nil (fun _ _ h => h) c112
theorem k113 : EnOk Tryz.prog e113 := en_ok mixed all_nil (fun _ _ h => h) c113
theorem k114 : EnOk Tryz.prog e114 := en_ok mixed all_nil (fun _ _ h => h) c114
theorem k115 : EnOk Tryz.prog e115 := en_ok mixed (all_cons k1 (all_cons k4 (all_cons k6 (all_cons k11 (all_cons k12 (all_cons k13 (all_cons k15 (all_cons k17 (all_cons k18 (all_cons k19 (all_cons k20 (all_cons k23 (all_cons k24 (all_cons k25 (all_cons k27 (all_cons k28 (all_cons k32 (all_cons k33 (all_cons k34 (all_cons k35 (all_cons k39 (all_cons k40 (all_cons k41 (all_cons k42 (all_cons k43 (all_cons k44 (all_cons k46 (all_cons k47 (all_cons k48 (all_cons k49 (all_cons k50 (all_cons k51 (all_cons k52 (all_cons k53 (all_cons k54 (all_cons k55 (all_cons k56 (all_cons k57 (all_cons k58 (all_cons k59 (all_cons k60 (all_cons k61 (all_cons k62 (all_cons k63 (all_cons k86 (all_cons k112 (all_cons k71 (all_cons k113 (all_cons k114 all_nil))))))))))))))))))))))))))))))))))))))))))))))))) (fun _ _ h => h) c115
theorem k116 : EnOk Tryz.prog e116 := en_ok mixed (all_cons k64 (all_cons k67 (all_cons k68 (all_cons k70 (all_cons k75 (all_cons k76 (all_cons k77 (all_cons k78 (all_cons k79 (all_cons k82 (all_cons k83 (all_cons k85 (all_cons k90 (all_cons k91 (all_cons k92 (all_cons k93 (all_cons k94 (all_cons k109 (all_cons k110 all_nil))))))))))))))))))) (fun _ _ h => h) c116
theorem k117 : EnOk Tryz.prog e117 := en_ok mixed all_nil (fun _ _ h => h) c117
theorem k118 : EnOk Tryz.prog e118 := en_ok mixed all_nil (fun _ _ h => h) c118
theorem k119 : EnOk Tryz.prog e119 := en_ok mixed (all_cons k64 (all_cons k67 (all_cons k68 (all_cons k70 (all_cons k75 (all_cons k76 (all_cons k77 (all_cons k78 (all_cons k79 (all_cons k82 (all_cons k83 (all_cons k85 (all_cons k90 (all_cons k91 (all_cons k92 (all_cons k93 (all_cons k94 (all_cons k117 (all_cons k118 all_nil))))))))))))))))))) (fun _ _ h => h) c119
theorem k120 : EnOk Tryz.prog e120 := en_ok mixed (all_cons k1 (all_cons k4 (all_cons k6 (all_cons k11 (all_cons k12 (all_cons k13 (all_cons k15 (all_cons k17 (all_cons k18 (all_cons k19 (all_cons k20 (all_cons k23 (all_cons k24 (all_cons k25 (all_cons k27 (all_cons k28 (all_cons k32 (all_cons k33 (all_cons k34 (all_cons k35 (all_cons k39 (all_cons k40 (all_cons k41 (all_cons k42 (all_cons k43 (all_cons k44 (all_cons k46 (all_cons k47 (all_cons k48 (all_cons k49 (all_cons k50 (all_cons k51 (all_cons k52 (all_cons k53 (all_cons k54 (all_cons k55 (all_cons k56 (all_cons k57 (all_cons k58 (all_cons k59 (all_cons k60 (all_cons k61 (all_cons k62 (all_cons k63 (all_cons k86 (all_cons k112 (all_cons k71 (all_cons k72 (all_cons k113 (all_cons k114 all_nil)))))))))))))))))))))))))))))))))))))))))))))))))) (fun _ _ h => h) c120
theorem k121 : EnOk Tryz.prog e121 := en_ok mixed (all_cons k64 (all_cons k67 (all_cons k68 (all_cons k70 (all_cons k75 (all_cons k76 (all_cons k77 (all_cons k78 (all_cons k79 (all_cons k82 (all_cons k83 (all_cons k85 (all_cons k90 (all_cons k91 (all_cons k92 (all_cons k93 (all_cons k94 (all_cons k117 (all_cons k118 all_nil))))))))))))))))))) (fun _ _ h => h) c121
theorem k122 : EnOk Tryz.prog e122 := en_ok mixed all_nil (fun _ _ h => h) c122
theorem k123 : EnOk Tryz.prog e123 := en_ok mixed all_nil (fun _ _ h => h) c123
theorem k124 : EnOk Tryz.prog e124 := en_ok mixed (all_cons k64 (all_cons k67 (all_cons k68 (all_cons k70 (all_cons k75 (all_cons k76 (all_cons k77 (all_cons k78 (all_cons k79 (all_cons k82 (all_cons k83 (all_cons k85 (all_cons k90 (all_cons k91 (all_cons k92 (all_cons k93 (all_cons k94 (all_cons k122 (all_cons k123 all_nil))))))))))))))))))) (fun _ _ h => h) c124
theorem k125 : EnOk Tryz.prog e125 := en_ok mixed (all_cons k64 (all_cons k67 (all_cons k68 (all_cons k70 (all_cons k75 (all_cons k76 (all_cons k77 (all_cons k78 (all_cons k79 (all_cons k82 (all_cons k83 (all_cons k85 (all_cons k90 (all_cons k91 (all_cons k92 (all_cons k93 (all_cons k94 (all_cons k122 (all_cons k123 all_nil))))))))))))))))))) (fun _ _ h => h) c125
theorem k126 : EnOk Tryz.prog e126 := en_ok mixed all_nil (fun _ _ h => h) c126
theorem k127 : EnOk Tryz.prog e127 := en_ok mixed (all_cons k64 (all_cons k67 (all_cons k68 (all_cons k70 (all_cons k75 (all_cons k76 (all_cons k77 (all_cons k78 (all_cons k79 (all_cons k82 (all_cons k83 (all_cons k85 (all_cons k90 (all_cons k91 (all_cons k92 (all_cons k93 (all_cons k94 (all_cons k109 (all_cons k126 (all_cons k110 all_nil)))))))))))))))))))) (fun _ _ h => h) c127
theorem k128 : EnOk Tryz.prog e128 := en_ok mixed (all_cons k64 (all_cons k67 (all_cons k68 (all_cons k70 (all_cons k75 (all_cons k76 (all_cons k77 (all_cons k78 (all_cons k79 (all_cons k82 (all_cons k83 (all_cons k85 (all_cons k90 (all_cons k91 (all_cons k92 (all_cons k93 (all_cons k94 (all_cons k109 (all_cons k110 all_nil))))))))))))))))))) (fun _ _ h => h) c128
theorem k129 : EnOk Tryz.prog e129 := en_ok mixed all_nil (fun _ _ h => h) c129
theorem k130 : EnOk Tryz.prog e130 := en_ok mixed (all_cons k64 (all_cons k67 (all_cons k68 (all_cons k70 (all_cons k75 (all_cons k76 (all_cons k77 (all_cons k78 (all_cons k79 (all_cons k82 (all_cons k83 (all_cons k85 (all_cons k90 (all_cons k91 (all_cons k92 (all_cons k93 (all_cons k94 (all_cons k117 (all_cons k129 (all_cons k118 all_nil)))))))))))))))))))) (fun _ _ h => h) c130
theorem k131 : EnOk Tryz.prog e131 := en_ok mixed (all_cons k64 (all_cons k67 (all_cons k68 (all_cons k70 (all_cons k75 (all_cons k76 (all_cons k77 (all_cons k78 (all_cons k79 (all_cons k82 (all_cons k83 (all_cons k85 (all_cons k90 (all_cons k91 (all_cons k92 (all_cons k93 (all_cons k94 (all_cons k117 (all_cons k118 all_nil))))))))))))))))))) (fun _ _ h => h) c131
theorem k132 : EnOk Tryz.prog e132 := en_ok mixed all_nil (fun _ _ h => h) c132
theorem k133 : EnOk Tryz.prog e133 := en_ok mixed (all_cons k64 (all_cons k67 (all_cons k68 (all_cons k70 (all_cons k75 (all_cons k76 (all_cons k77 (all_cons k78 (all_cons k79 (all_cons k82 (all_cons k83 (all_cons k85 (all_cons k90 (all_cons k91 (all_cons k92 (all_cons k93 (all_cons k94 (all_cons k122 (all_cons k132 (all_cons k123 all_nil)))))))))))))))))))) (fun _ _ h => h) c133
theorem k134 : EnOk Tryz.prog e134 := en_ok mixed (all_cons k1 (all_cons k4 (all_cons k6 (all_cons k11 (all_cons k12 (all_cons k13 (all_cons k15 (all_cons k17 (all_cons k18 (all_cons k19 (all_cons k20 (all_cons k23 (all_cons k24 (all_cons k25 (all_cons k27 (all_cons k28 (all_cons k32 (all_cons k33 (all_cons k34 (all_cons k35 (all_cons k39 (all_cons k40 (all_cons k41 (all_cons k42 (all_cons k43 (all_cons k44 (all_cons k46 (all_cons k47 (all_cons k48 (all_cons k49 (all_cons k50 (all_cons k51 (all_cons k52 (all_cons k53 (all_cons k54 (all_cons k55 (all_cons k56 (all_cons k57 (all_cons k58 (all_cons k59 (all_cons k60 (all_cons k61 (all_cons k62 (all_cons k63 (all_cons k86 (all_cons k87 (all_cons k112 (all_cons k71 (all_cons k72 (all_cons k113 (all_cons k114 all_nil))))))))))))))))))))))))))))))))))))))))))))))))))) (fun _ _ h => h) c134
theorem k135 : EnOk Tryz.prog e135 := en_ok mixed (all_cons k64 (all_cons k67 (all_cons k68 (all_cons k70 (all_cons k75 (all_cons k76 (all_cons k77 (all_cons k78 (all_cons k79 (all_cons k82 (all_cons k83 (all_cons k85 (all_cons k90 (all_cons k91 (all_cons k92 (all_cons k93 (all_cons k94 (all_cons k122 (all_cons k123 all_nil))))))))))))))))))) (fun _ _ h => h) c135
theorem k136 : EnOk Tryz.prog e136 := en_ok mixed (all_cons k104 (all_cons k108 (all_cons k64 (all_cons k111 (all_cons k115 (all_cons k116 (all_cons k119 (all_cons k120 (all_cons k121 (all_cons k124 (all_cons k125 (all_cons k127 (all_cons k128 (all_cons k130 (all_cons k131 (all_cons k133 (all_cons k134 (all_cons k135 all_nil)))))))))))))))))) (fun _ _ h => h) c136
theorem k137 : EnOk Tryz.prog e137 := en_ok mixed (all_cons k64 (all_cons k67 (all_cons k68 (all_cons k70 (all_cons k75 (all_cons k76 (all_cons k77 (all_cons k78 (all_cons k79 (all_cons k82 (all_cons k83 (all_cons k85 (all_cons k90 (all_cons k91 (all_cons k92 (all_cons k93 (all_cons k94 all_nil))))))))))))))))) (fun _ _ h => h) c137
theorem k138 : EnOk Tryz.prog e138 := en_ok mixed (all_cons k65 (all_cons k66 all_nil)) (fun _ _ h => h) c138
theorem k139 : EnOk Tryz.prog e139 := en_ok mixed all_nil (fun _ _ h => h) c139
theorem k140 : EnOk Tryz.prog e140 := en_ok mixed (all_cons k69 all_nil) (fun _ _ h => h) c140
theorem k141 : EnOk Tryz.prog e141 := en_ok mixed (all_cons k74 all_nil) (fun _ _ h => h) c141
theorem k142 : EnOk Tryz.prog e142 := en_ok mixed all_nil (fun _ _ h => h) c142
theorem k143 : EnOk Tryz.prog e143 := en_ok mixed all_nil (fun _ _ h => h) c143
theorem k144 : EnOk Tryz.prog e144 := en_ok mixed all_nil (fun _ _ h => h) c144
theorem k145 : EnOk Tryz.prog e145 := en_ok mixed all_nil (fun _ _ h => h) c145
theorem k146 : EnOk Tryz.prog e146 := en_ok mixed (all_cons k80 (all_cons k81 all_nil)) (fun _ _ h => h) c146
theorem k147 : EnOk Tryz.prog e147 := en_ok mixed all_nil (fun _ _ h => h) c147
theorem k148 : EnOk Tryz.prog e148 := en_ok mixed (all_cons k84 all_nil) (fun _ _ h => h) c148
theorem k149 : EnOk Tryz.prog e149 := en_ok mixed (all_cons k89 all_nil) (fun _ _ h => h) c149
theorem k150 : EnOk Tryz.prog e150 := en_ok mixed all_nil (fun _ _ h => h) c150
theorem k151 : EnOk Tryz.prog e151 := en_ok mixed all_nil (fun _ _ h => h) c151
theorem k152 : EnOk Tryz.prog e152 := en_ok mixed all_nil (fun _ _ h => h) c152
theorem k153 : EnOk Tryz.prog e153 := en_ok mixed all_nil (fun _ _ h => h) c153
theorem k154 : EnOk Tryz.prog e154 := en_ok mixed (all_cons k64 (all_cons k138 (all_cons k139 (all_cons k140 (all_cons k141 (all_cons k142 (all_cons k143 (all_cons k144 (all_cons k145 (all_cons k146 (all_cons k147 (all_cons k148 (all_cons k149 (all_cons k150 (all_cons k151 (all_cons k152 (all_cons k153 all_nil))))))))))))))))) (fun _ _ h => h) c154
theorem k155 : EnOk Tryz.prog e155 := en_ok mixed (all_cons k154 (all_cons k96 (all_cons k97 (all_cons k98 (all_cons k99 (all_cons k102 (all_cons k103 all_nil))))))) (fun _ _ h => h) c155
theorem k156 : EnOk Tryz.prog e156 := en_ok mixed (all_cons k64 (all_cons k138 (all_cons k139 (all_cons k140 (all_cons k141 (all_cons k142 (all_cons k143 (all_cons k144 (all_cons k145 (all_cons k146 (all_cons k147 (all_cons k148 (all_cons k149 (all_cons k150 (all_cons k151 (all_cons k152 (all_cons k153 (all_cons k109 (all_cons k110 all_nil))))))))))))))))))) (fun _ _ h => h) c156
theorem k157 : EnOk Tryz.prog e157 := en_ok mixed (all_cons k64 (all_cons k138 (all_cons k139 (all_cons k140 (all_cons k141 (all_cons k142 (all_cons k143 (all_cons k144 (all_cons k145 (all_cons k146 (all_cons k147 (all_cons k148 (all_cons k149 (all_cons k150 (all_cons k151 (all_cons k152 (all_cons k153 (all_cons k109 (all_cons k110 all_nil))))))))))))))))))) (fun _ _ h => h) c157
theorem k158 : EnOk Tryz.prog e158 := en_ok mixed (all_cons k64 (all_cons k138 (all_cons k139 (all_cons k140 (all_cons k141 (all_cons k142 (all_cons k143 (all_cons k144 (all_cons k145 (all_cons k146 (all_cons k147 (all_cons k148 (all_cons k149 (all_cons k150 (all_cons k151 (all_cons k152 (all_cons k153 (all_cons k117 (all_cons k118 all_nil))))))))))))))))))) (fun _ _ h => h) c158
theorem k159 : EnOk Tryz.prog e159 := en_ok mixed (all_cons k64 (all_cons k138 (all_cons k139 (all_cons k140 (all_cons k141 (all_cons k142 (all_cons k143 (all_cons k144 (all_cons k145 (all_cons k146 (all_cons k147 (all_cons k148 (all_cons k149 (all_cons k150 (all_cons k151 (all_cons k152 (all_cons k153 (all_cons k117 (all_cons k118 all_nil))))))))))))))))))) (fun _ _ h => h) c159
theorem k160 : EnOk Tryz.prog e160 := en_ok mixed (all_cons k64 (all_cons k138 (all_cons k139 (all_cons k140 (all_cons k141 (all_cons k142 (all_cons k143 (all_cons k144 (all_cons k145 (all_cons k146 (all_cons k147 (all_cons k148 (all_cons k149 (all_cons k150 (all_cons k151 (all_cons k152 (all_cons k153 (all_cons k122 (all_cons k123 all_nil))))))))))))))))))) (fun _ _ h => h) c160
theorem k161 : EnOk Tryz.prog e161 := en_ok mixed (all_cons k64 (all_cons k138 (all_cons k139 (all_cons k140 (all_cons k141 (all_cons k142 (all_cons k143 (all_cons k144 (all_cons k145 (all_cons k146 (all_cons k147 (all_cons k148 (all_cons k149 (all_cons k150 (all_cons k151 (all_cons k152 (all_cons k153 (all_cons k122 (all_cons k123 all_nil))))))))))))))))))) (fun _ _ h => h) c161
theorem k162 : EnOk Tryz.prog e162 := en_ok mixed all_nil (fun _ _ h => h) c162
theorem k163 : EnOk Tryz.prog e163 := en_ok mixed all_nil (fun _ _ h => h) c163
theorem k164 : EnOk Tryz.prog e164 := en_ok mixed (all_cons k155 (all_cons k64 (all_cons k156 (all_cons k115 (all_cons k157 (all_cons k158 (all_cons k120 (all_cons k159 (all_cons k160 (all_cons k161 (all_cons k162 (all_cons k102 (all_cons k163 all_nil))))))))))))) (fun _ _ h => h) c164
theorem k165 : EnOk Tryz.prog e165 := en_ok mixed (all_cons k164 all_nil) (fun _ _ h => h) c165
theorem k166 : EnOk Tryz.prog e166 := en_ok mixed (all_cons k74 all_nil) (fun _ _ h => h) c166
theorem k167 : EnOk Tryz.prog e167 := en_ok mixed (all_cons k155 (all_cons k64 (all_cons k156 (all_cons k115 (all_cons k157 (all_cons k158 (all_cons k120 (all_cons k159 (all_cons k160 (all_cons k161 (all_cons k162 (all_cons k166 (all_cons k163 all_nil))))))))))))) (fun _ _ h => h) c167
theorem k168 : EnOk Tryz.prog e168 := en_ok mixed (all_cons k167 all_nil) (fun _ _ h => h) c168
theorem k169 : EnOk Tryz.prog e169 := en_ok mixed (all_cons k64 (all_cons k67 (all_cons k68 (all_cons k70 (all_cons k75 (all_cons k76 (all_cons k77 (all_cons k78 (all_cons k79 (all_cons k82 (all_cons k83 (all_cons k85 (all_cons k90 (all_cons k91 (all_cons k92 (all_cons k93 (all_cons k94 all_nil))))))))))))))))) (fun _ _ h => h) c169
theorem k170 : EnOk Tryz.prog e170 := en_ok mixed (all_cons k65 (all_cons k66 all_nil)) (fun _ _ h => h) c170
theorem k171 : EnOk Tryz.prog e171 := en_ok mixed all_nil (fun _ _ h => h) c171
theorem k172 : EnOk Tryz.prog e172 := en_ok mixed (all_cons k69 all_nil) (fun _ _ h => h) c172
theorem k173 : EnOk Tryz.prog e173 := en_ok mixed (all_cons k74 all_nil) (fun _ _ h => h) c173
theorem k174 : EnOk Tryz.prog e174 := en_ok mixed all_nil (fun _ _ h => h) c174
theorem k175 : EnOk Tryz.prog e175 := en_ok mixed all_nil (fun _ _ h => h) c175
theorem k176 : EnOk Tryz.prog e176 := en_ok mixed all_nil (fun _ _ h => h) c176
theorem k177 : EnOk Tryz.prog e177 := en_ok mixed all_nil (fun _ _ h => h) c177
theorem k178 : EnOk Tryz.prog e178 := en_ok mixed (all_cons k80 (all_cons k81 all_nil)) (fun _ _ h => h) c178
theorem k179 : EnOk Tryz.prog e179 := en_ok mixed all_nil (fun _ _ h => h) c179
theorem k180 : EnOk Tryz.prog e180 := en_ok mixed (all_cons k84 all_nil) (fun _ _ h => h) c180
theorem k181 : EnOk Tryz.prog e181 := en_ok mixed (all_cons k89 all_nil) (fun _ _ h => h) c181
theorem k182 : EnOk Tryz.prog e182 := en_ok mixed all_nil (fun _ _ h => h) c182
theorem k183 : EnOk Tryz.prog e183 := en_ok mixed all_nil (fun _ _ h => h) c183
theorem k184 : EnOk Tryz.prog e184 := en_ok mixed all_nil (fun _ _ h => h) c184
theorem k185 : EnOk Tryz.prog e185 := en_ok mixed all_nil (fun _ _ h => h) c185
theorem k186 : EnOk Tryz.prog e186 := en_ok mixed (all_cons k64 (all_cons k170 (all_cons k171 (all_cons k172 (all_cons k173 (all_cons k174 (all_cons k175 (all_cons k176 (all_cons k177 (all_cons k178 (all_cons k179 (all_cons k180 (all_cons k181 (all_cons k182 (all_cons k183 (all_cons k184 (all_cons k185 all_nil))))))))))))))))) (fun _ _ h => h) c186
theorem k187 : EnOk Tryz.prog e187 := en_ok mixed (all_cons k186 (all_cons k96 (all_cons k97 (all_cons k98 (all_cons k99 (all_cons k102 (all_cons k103 all_nil))))))) (fun _ _ h => h) c187
theorem k188 : EnOk Tryz.prog e188 := en_ok mixed (all_cons k64 (all_cons k170 (all_cons k171 (all_cons k172 (all_cons k173 (all_cons k174 (all_cons k175 (all_cons k176 (all_cons k177 (all_cons k178 (all_cons k179 (all_cons k180 (all_cons k181 (all_cons k182 (all_cons k183 (all_cons k184 (all_cons k185 (all_cons k109 (all_cons k126 (all_cons k110 all_nil)))))))))))))))))))) (fun _ _ h => h) c188
theorem k189 : EnOk Tryz.prog e189 := en_ok mixed (all_cons k64 (all_cons k170 (all_cons k171 (all_cons k172 (all_cons k173 (all_cons k174 (all_cons k175 (all_cons k176 (all_cons k177 (all_cons k178 (all_cons k179 (all_cons k180 (all_cons k181 (all_cons k182 (all_cons k183 (all_cons k184 (all_cons k185 (all_cons k109 (all_cons k110 all_nil))))))))))))))))))) (fun _ _ h => h) c189
theorem k190 : EnOk Tryz.prog e190 := en_ok mixed (all_cons k64 (all_cons k170 (all_cons k171 (all_cons k172 (all_cons k173 (all_cons k174 (all_cons k175 (all_cons k176 (all_cons k177 (all_cons k178 (all_cons k179 (all_cons k180 (all_cons k181 (all_cons k182 (all_cons k183 (all_cons k184 (all_cons k185 (all_cons k117 (all_cons k129 (all_cons k118 all_nil)))))))))))))))))))) (fun _ _ h => h) c190
theorem k191 : EnOk Tryz.prog e191 := en_ok mixed (all_cons k64 (all_cons k170 (all_cons k171 (all_cons k172 (all_cons k173 (all_cons k174 (all_cons k175 (all_cons k176 (all_cons k177 (all_cons k178 (all_cons k179 (all_cons k180 (all_cons k181 (all_cons k182 (all_cons k183 (all_cons k184 (all_cons k185 (all_cons k117 (all_cons k118 all_nil))))))))))))))))))) (fun _ _ h => h) c191
theorem k192 : EnOk Tryz.prog e192 := en_ok mixed (all_cons k64 (all_cons k170 (all_cons k171 (all_cons k172 (all_cons k173 (all_cons k174 (all_cons k175 (all_cons k176 (all_cons k177 (all_cons k178 (all_cons k179 (all_cons k180 (all_cons k181 (all_cons k182 (all_cons k183 (all_cons k184 (all_cons k185 (all_cons k122 (all_cons k132 (all_cons k123 all_nil)))))))))))))))))))) (fun _ _ h => h) c192
theorem k193 : EnOk Tryz.prog e193 := en_ok mixed (all_cons k64 (all_cons k170 (all_cons k171 (all_cons k172 (all_cons k173 (all_cons k174 (all_cons k175 (all_cons k176 (all_cons k177 (all_cons k178 (all_cons k179 (all_cons k180 (all_cons k181 (all_cons k182 (all_cons k183 (all_cons k184 (all_cons k185 (all_cons k122 (all_cons k123 all_nil))))))))))))))))))) (fun _ _ h => h) c193
theorem k194 : EnOk Tryz.prog e194 := en_ok mixed (all_cons k187 (all_cons k64 (all_cons k188 (all_cons k115 (all_cons k189 (all_cons k190 (all_cons k120 (all_cons k191 (all_cons k192 (all_cons k134 (all_cons k193 (all_cons k162 (all_cons k102 (all_cons k163 all_nil)))))))))))))) (fun _ _ h => h) c194
theorem k195 : EnOk Tryz.prog e195 := en_ok mixed (all_cons k194 all_nil) (fun _ _ h => h) c195
theorem k196 : EnOk Tryz.prog e196 := en_ok mixed (all_cons k187 (all_cons k64 (all_cons k188 (all_cons k115 (all_cons k189 (all_cons k190 (all_cons k120 (all_cons k191 (all_cons k192 (all_cons k134 (all_cons k193 (all_cons k162 (all_cons k166 (all_cons k163 all_nil)))))))))))))) (fun _ _ h => h) c196
theorem k197 : EnOk Tryz.prog e197 := en_ok mixed (all_cons k196 all_nil) (fun _ _ h => h) c197
theorem k198 : EnOk Tryz.prog e198 := en_ok mixed (all_cons k107 (all_cons k136 (all_cons k137 (all_cons k165 (all_cons k168 (all_cons k169 (all_cons k195 (all_cons k197 all_nil)))))))) (fun _ _ h => h) c198
theorem k199 : EnOk Tryz.prog e199 := en_ok mixed all_nil (fun _ _ h => h) c199
theorem k200 : EnOk Tryz.prog e200 := en_ok mixed all_nil (fun _ _ h => h) c200
theorem k201 : EnOk Tryz.prog e201 := en_ok mixed all_nil (fun _ _ h => h) c201
theorem k202 : EnOk Tryz.prog e202 := en_ok mixed (all_cons k104 (all_cons k105 (all_cons k201 all_nil))) (fun _ _ h => h) c202
theorem k203 : EnOk Tryz.prog e203 := en_ok mixed all_nil (fun _ _ h => h) c203
theorem k204 : EnOk Tryz.prog e204 := en_ok mixed all_nil (fun _ _ h => h) c204
theorem k205 : EnOk Tryz.prog e205 := en_ok mixed (all_cons k64 (all_cons k67 (all_cons k68 (all_cons k70 (all_cons k75 (all_cons k76 (all_cons k77 (all_cons k78 (all_cons k79 (all_cons k82 (all_cons k83 (all_cons k85 (all_cons k90 (all_cons k91 (all_cons k92 (all_cons k93 (all_cons k94 (all_cons k203 (all_cons k204 all_nil))))))))))))))))))) (fun _ _ h => h) c205
theorem k206 : EnOk Tryz.prog e206 := en_ok mixed all_nil (fun _ _ h => h) c206
theorem k207 : EnOk Tryz.prog e207 := en_ok mixed all_nil (fun _ _ h => h) c207
theorem k208 : EnOk Tryz.prog e208 := en_ok mixed (all_cons k64 (all_cons k67 (all_cons k68 (all_cons k70 (all_cons k75 (all_cons k76 (all_cons k77 (all_cons k78 (all_cons k79 (all_cons k82 (all_cons k83 (all_cons k85 (all_cons k90 (all_cons k91 (all_cons k92 (all_cons k93 (all_cons k94 (all_cons k117 (all_cons k118 all_nil))))))))))))))))))) (fun _ _ h => h) c208
theorem k209 : EnOk Tryz.prog e209 := en_ok mixed (all_cons k95 (all_cons k205 (all_cons k206 (all_cons k207 (all_cons k208 all_nil))))) (fun _ _ h => h) c209
theorem k210 : EnOk Tryz.prog e210 := en_ok mixed (all_cons k95 (all_cons k205 (all_cons k206 (all_cons k207 (all_cons k208 all_nil))))) (fun _ _ h => h) c210
theorem k211 : EnOk Tryz.prog e211 := en_ok mixed all_nil (fun _ _ h => h) c211
theorem k212 : EnOk Tryz.prog e212 := en_ok mixed (all_cons k64 (all_cons k67 (all_cons k68 (all_cons k70 (all_cons k75 (all_cons k76 (all_cons k77 (all_cons k78 (all_cons k79 (all_cons k82 (all_cons k83 (all_cons k85 (all_cons k90 (all_cons k91 (all_cons k92 (all_cons k93 (all_cons k94 (all_cons k203 (all_cons k204 (all_cons k211 all_nil)))))))))))))))))))) (fun _ _ h => h) c212
theorem k213 : EnOk Tryz.prog e213 := en_ok mixed (all_cons k64 (all_cons k67 (all_cons k68 (all_cons k70 (all_cons k75 (all_cons k76 (all_cons k77 (all_cons k78 (all_cons k79 (all_cons k82 (all_cons k83 (all_cons k85 (all_cons k90 (all_cons k91 (all_cons k92 (all_cons k93 (all_cons k94 (all_cons k117 (all_cons k118 (all_cons k129 all_nil)))))))))))))))))))) (fun _ _ h => h) c213
theorem k214 : EnOk Tryz.prog e214 := en_ok mixed (all_cons k95 (all_cons k212 (all_cons k206 (all_cons k207 (all_cons k213 all_nil))))) (fun _ _ h => h) c214
theorem k215 : EnOk Tryz.prog e215 := en_ok mixed (all_cons k95 (all_cons k212 (all_cons k206 (all_cons k207 (all_cons k213 all_nil))))) (fun _ _ h => h) c215
theorem k216 : EnOk Tryz.prog e216 := en_ok mixed (all_cons k202 (all_cons k136 (all_cons k101 (all_cons k137 (all_cons k165 (all_cons k209 (all_cons k168 (all_cons k210 (all_cons k169 (all_cons k195 (all_cons k214 (all_cons k197 (all_cons k215 all_nil))))))))))))) (fun _ _ h => h) c216
theorem k217 : EnOk Tryz.prog e217 := en_ok mixed (all_cons k202 (all_cons k136 (all_cons k137 (all_cons k165 (all_cons k168 (all_cons k169 (all_cons k195 (all_cons k197 (all_cons k209 (all_cons k210 (all_cons k214 (all_cons k215 all_nil)))))))))))) (fun _ _ h => h) c217
theorem k218 : EnOk Tryz.prog e218 := en_ok mixed all_nil (fun _ _ h => h) c218
theorem k219 : EnOk Tryz.prog e219 := en_ok mixed (all_cons k64 (all_cons k117 all_nil)) (fun _ _ h => h) c219
theorem k220 : EnOk Tryz.prog e220 := en_ok mixed (all_cons k95 (all_cons k205 (all_cons k206 (all_cons k218 (all_cons k219 all_nil))))) (fun _ _ h => h) c220
theorem k221 : EnOk Tryz.prog e221 := en_ok mixed (all_cons k95 (all_cons k205 (all_cons k206 (all_cons k218 (all_cons k219 all_nil))))) (fun _ _ h => h) c221
theorem k222 : EnOk Tryz.prog e222 := en_ok mixed (all_cons k95 (all_cons k212 (all_cons k206 (all_cons k218 (all_cons k219 all_nil))))) (fun _ _ h => h) c222
theorem k223 : EnOk Tryz.prog e223 := en_ok mixed (all_cons k95 (all_cons k212 (all_cons k206 (all_cons k218 (all_cons k219 all_nil))))) (fun _ _ h => h) c223
theorem k224 : EnOk Tryz.prog e224 := en_ok mixed all_nil (fun _ _ h => h) c224
theorem k225 : EnOk Tryz.prog e225 := en_ok mixed (all_cons k224 all_nil) (fun _ _ h => h) c225
theorem k226 : EnOk Tryz.prog e226 := en_ok mixed all_nil (fun _ _ h => h) c226
theorem k227 : EnOk Tryz.prog e227 := en_ok mixed (all_cons k226 all_nil) (fun _ _ h => h) c227
theorem k228 : EnOk Tryz.prog e228 := en_ok mixed all_nil (fun _ _ h => h) c228
theorem k229 : EnOk Tryz.prog e229 := en_ok mixed (all_cons k228 all_nil) (fun _ _ h => h) c229
theorem k230 : EnOk Tryz.prog e230 := en_ok mixed all_nil (fun _ _ h => h) c230
theorem k231 : EnOk Tryz.prog e231 := en_ok mixed (all_cons k230 all_nil) (fun _ _ h => h) c231
theorem k232 : EnOk Tryz.prog e232 := en_ok mixed all_nil (fun _ _ h => h) c232
theorem k233 : EnOk Tryz.prog e233 := en_ok mixed (all_cons k232 all_nil) (fun _ _ h => h) c233
theorem k234 : EnOk Tryz.prog e234 := en_ok mixed all_nil (fun _ _ h => h) c234
theorem k235 : EnOk Tryz.prog e235 := en_ok mixed (all_cons k234 all_nil) (fun _ _ h => h) c235
theorem k236 : EnOk Tryz.prog e236 := en_ok mixed all_nil (fun _ _ h => h) c236
theorem k237 : EnOk Tryz.prog e237 := en_ok mixed all_nil (fun _ _ h => h) c237
theorem k238 : EnOk Tryz.prog e238 := en_ok mixed (all_cons k237 all_nil) (fun _ _ h => h) c238
theorem k239 : EnOk Tryz.prog e239 := en_ok mixed all_nil (fun _ _ h => h) c239
theorem k240 : EnOk Tryz.prog e240 := en_ok mixed (all_cons k239 all_nil) (fun _ _ h => h) c240
theorem k241 : EnOk Tryz.prog e241 := en_ok mixed all_nil (fun _ _ h => h) c241
theorem k242 : EnOk Tryz.prog e242 := en_ok mixed all_nil (fun _ _ h => h) c242
theorem k243 : EnOk Tryz.prog e243 := en_ok mixed (all_cons k242 all_nil) (fun _ _ h => h) c243
theorem k244 : EnOk Tryz.prog e244 := en_ok mixed all_nil (fun _ _ h => h) c244
theorem k245 : EnOk Tryz.prog e245 := en_ok mixed (all_cons k244 all_nil) (fun _ _ h => h) c245
theorem k246 : EnOk Tryz.prog e246 := en_ok mixed all_nil (fun _ _ h => h) c246
theorem k247 : EnOk Tryz.prog e247 := en_ok mixed (all_cons k246 all_nil) (fun _ _ h => h) c247
theorem k248 : EnOk Tryz.prog e248 := en_ok mixed all_nil (fun _ _ h => h) c248
theorem k249 : EnOk Tryz.prog e249 := en_ok mixed (all_cons k248 all_nil) (fun _ _ h => h) c249
theorem k250 : EnOk Tryz.prog e250 := en_ok mixed all_nil (fun _ _ h => h) c250
theorem k251 : EnOk Tryz.prog e251 := en_ok mixed all_nil (fun _ _ h => h) c251
theorem k252 : EnOk Tryz.prog e252 := en_ok mixed (all_cons k107 (all_cons k136 (all_cons k137 (all_cons k165 (all_cons k168 (all_cons k169 (all_cons k195 (all_cons k197 (all_cons k220 (all_cons k221 (all_cons k222 (all_cons k223 (all_cons k225 (all_cons k227 (all_cons k229 (all_cons k231 (all_cons k233 (all_cons k235 (all_cons k236 (all_cons k238 (all_cons k240 (all_cons k241 (all_cons k243 (all_cons k245 (all_cons k247 (all_cons k249 (all_cons k250 (all_cons k251 all_nil)))))))))))))))))))))))))))) (fun _ _ h => h) c252
theorem k253 : EnOk Tryz.prog e253 := en_ok mixed (all_cons k107 (all_cons k136 (all_cons k137 (all_cons k165 (all_cons k168 (all_cons k169 (all_cons k195 (all_cons k197 (all_cons k220 (all_cons k221 (all_cons k222 (all_cons k223 (all_cons k225 (all_cons k227 (all_cons k229 (all_cons k231 (all_cons k233 (all_cons k235 (all_cons k236 (all_cons k238 (all_cons k240 (all_cons k241 (all_cons k243 (all_cons k245 (all_cons k247 (all_cons k249 (all_cons k250 (all_cons k251 all_nil)))))))))))))))))))))))))))) (fun _ _ h => h) c253
theorem k254 : EnOk Tryz.prog e254 := en_ok mixed (all_cons k155 (all_cons k64 (all_cons k156 (all_cons k115 (all_cons k157 (all_cons k158 (all_cons k120 (all_cons k159 (all_cons k160 (all_cons k161 (all_cons k162 (all_cons k102 (all_cons k163 all_nil))))))))))))) (fun _ _ h => h) c254
theorem k255 : EnOk Tryz.prog e255 := en_ok mixed (all_cons k254 all_nil) (fun _ _ h => h) c255
theorem k256 : EnOk Tryz.prog e256 := en_ok mixed all_nil (fun _ _ h => h) c256
theorem k257 : EnOk Tryz.prog e257 := en_ok mixed (all_cons k64 (all_cons k67 (all_cons k68 (all_cons k70 (all_cons k75 (all_cons k76 (all_cons k77 (all_cons k78 (all_cons k79 (all_cons k82 (all_cons k83 (all_cons k85 (all_cons k90 (all_cons k91 (all_cons k92 (all_cons k93 (all_cons k94 (all_cons k109 (all_cons k110 all_nil))))))))))))))))))) (fun _ _ h => h) c257
theorem k258 : EnOk Tryz.prog e258 := en_ok mixed (all_cons k95 (all_cons k205 (all_cons k256 (all_cons k207 (all_cons k257 all_nil))))) (fun _ _ h => h) c258
theorem k259 : EnOk Tryz.prog e259 := en_ok mixed (all_cons k155 (all_cons k64 (all_cons k156 (all_cons k115 (all_cons k157 (all_cons k158 (all_cons k120 (all_cons k159 (all_cons k160 (all_cons k161 (all_cons k162 (all_cons k166 (all_cons k163 all_nil))))))))))))) (fun _ _ h => h) c259
theorem k260 : EnOk Tryz.prog e260 := en_ok mixed (all_cons k259 all_nil) (fun _ _ h => h) c260
theorem k261 : EnOk Tryz.prog e261 := en_ok mixed (all_cons k187 (all_cons k64 (all_cons k188 (all_cons k115 (all_cons k189 (all_cons k190 (all_cons k120 (all_cons k191 (all_cons k192 (all_cons k134 (all_cons k193 (all_cons k162 (all_cons k102 (all_cons k163 all_nil)))))))))))))) (fun _ _ h => h) c261
theorem k262 : EnOk Tryz.prog e262 := en_ok mixed (all_cons k261 all_nil) (fun _ _ h => h) c262
theorem k263 : EnOk Tryz.prog e263 := en_ok mixed (all_cons k64 (all_cons k67 (all_cons k68 (all_cons k70 (all_cons k75 (all_cons k76 (all_cons k77 (all_cons k78 (all_cons k79 (all_cons k82 (all_cons k83 (all_cons k85 (all_cons k90 (all_cons k91 (all_cons k92 (all_cons k93 (all_cons k94 (all_cons k109 (all_cons k110 (all_cons k126 all_nil)))))))))))))))))))) (fun _ _ h => h) c263
theorem k264 : EnOk Tryz.prog e264 := en_ok mixed (all_cons k95 (all_cons k212 (all_cons k256 (all_cons k207 (all_cons k263 all_nil))))) (fun _ _ h => h) c264
theorem k265 : EnOk Tryz.prog e265 := en_ok mixed (all_cons k187 (all_cons k64 (all_cons k188 (all_cons k115 (all_cons k189 (all_cons k190 (all_cons k120 (all_cons k191 (all_cons k192 (all_cons k134 (all_cons k193 (all_cons k162 (all_cons k166 (all_cons k163 all_nil)))))))))))))) (fun _ _ h => h) c265
theorem k266 : EnOk Tryz.prog e266 := en_ok mixed (all_cons k265 all_nil) (fun _ _ h => h) c266
theorem k267 : EnOk Tryz.prog e267 := en_ok mixed (all_cons k155 (all_cons k64 (all_cons k156 (all_cons k115 (all_cons k157 (all_cons k158 (all_cons k120 (all_cons k159 (all_cons k160 (all_cons k161 (all_cons k162 (all_cons k102 (all_cons k163 all_nil))))))))))))) (fun _ _ h => h) c267
theorem k268 : EnOk Tryz.prog e268 := en_ok mixed (all_cons k267 all_nil) (fun _ _ h => h) c268
theorem k269 : EnOk Tryz.prog e269 := en_ok mixed all_nil (fun _ _ h => h) c269
theorem k270 : EnOk Tryz.prog e270 := en_ok mixed (all_cons k64 (all_cons k67 (all_cons k68 (all_cons k70 (all_cons k75 (all_cons k76 (all_cons k77 (all_cons k78 (all_cons k79 (all_cons k82 (all_cons k83 (all_cons k85 (all_cons k90 (all_cons k91 (all_cons k92 (all_cons k93 (all_cons k94 (all_cons k122 (all_cons k123 all_nil))))))))))))))))))) (fun _ _ h => h) c270
theorem k271 : EnOk Tryz.prog e271 := en_ok mixed (all_cons k95 (all_cons k205 (all_cons k269 (all_cons k207 (all_cons k270 all_nil))))) (fun _ _ h => h) c271
theorem k272 : EnOk Tryz.prog e272 := en_ok mixed (all_cons k155 (all_cons k64 (all_cons k156 (all_cons k115 (all_cons k157 (all_cons k158 (all_cons k120 (all_cons k159 (all_cons k160 (all_cons k161 (all_cons k162 (all_cons k166 (all_cons k163 all_nil))))))))))))) (fun _ _ h => h) c272
theorem k273 : EnOk Tryz.prog e273 := en_ok mixed (all_cons k272 all_nil) (fun _ _ h => h) c273
theorem k274 : EnOk Tryz.prog e274 := en_ok mixed (all_cons k95 (all_cons k205 (all_cons k269 (all_cons k207 (all_cons k270 all_nil))))) (fun _ _ h => h) c274
theorem k275 : EnOk Tryz.prog e275 := en_ok mixed (all_cons k187 (all_cons k64 (all_cons k188 (all_cons k115 (all_cons k189 (all_cons k190 (all_cons k120 (all_cons k191 (all_cons k192 (all_cons k134 (all_cons k193 (all_cons k162 (all_cons k102 (all_cons k163 all_nil)))))))))))))) (fun _ _ h => h) c275
theorem k276 : EnOk Tryz.prog e276 := en_ok mixed (all_cons k275 all_nil) (fun _ _ h => h) c276
theorem k277 : EnOk Tryz.prog e277 := en_ok mixed (all_cons k64 (all_cons k67 (all_cons k68 (all_cons k70 (all_cons k75 (all_cons k76 (all_cons k77 (all_cons k78 (all_cons k79 (all_cons k82 (all_cons k83 (all_cons k85 (all_cons k90 (all_cons k91 (all_cons k92 (all_cons k93 (all_cons k94 (all_cons k122 (all_cons k123 (all_cons k132 all_nil)))))))))))))))))))) (fun _ _ h => h) c277
theorem k278 : EnOk Tryz.prog e278 := en_ok mixed (all_cons k95 (all_cons k212 (all_cons k269 (all_cons k207 (all_cons k277 all_nil))))) (fun _ _ h => h) c278
theorem k279 : EnOk Tryz.prog e279 := en_ok mixed (all_cons k187 (all_cons k64 (all_cons k188 (all_cons k115 (all_cons k189 (all_cons k190 (all_cons k120 (all_cons k191 (all_cons k192 (all_cons k134 (all_cons k193 (all_cons k162 (all_cons k166 (all_cons k163 all_nil)))))))))))))) (fun _ _ h => h) c279
theorem k280 : EnOk Tryz.prog e280 := en_ok mixed (all_cons k279 all_nil) (fun _ _ h => h) c280
theorem k281 : EnOk Tryz.prog e281 := en_ok mixed (all_cons k95 (all_cons k212 (all_cons k269 (all_cons k207 (all_cons k277 all_nil))))) (fun _ _ h => h) c281
theorem k282 : EnOk Tryz.prog e282 := en_ok mixed (all_cons k202 (all_cons k136 (all_cons k137 (all_cons k255 (all_cons k258 (all_cons k260 (all_cons k169 (all_cons k262 (all_cons k264 (all_cons k266 (all_cons k165 (all_cons k209 (all_cons k168 (all_cons k210 (all_cons k195 (all_cons k214 (all_cons k197 (all_cons k215 (all_cons k268 (all_cons k271 (all_cons k273 (all_cons k274 (all_cons k276 (all_cons k278 (all_cons k280 (all_cons k281 all_nil)))))))))))))))))))))))))) (fun _ _ h => h) c282
theorem k283 : EnOk Tryz.prog e283 := en_ok mixed all_nil (fun _ _ h => h) c283
theorem k284 : EnOk Tryz.prog e284 := en_ok mixed all_nil (fun _ _ h => h) c284
theorem k285 : EnOk Tryz.prog e285 := en_ok mixed all_nil (fun _ _ h => h) c285
theorem k286 : EnOk Tryz.prog e286 := en_ok mixed (all_cons k95 (all_cons k284 (all_cons k285 all_nil))) (fun _ _ h => h) c286
theorem k287 : EnOk Tryz.prog e287 := en_ok mixed (all_cons k104 (all_cons k286 (all_cons k201 all_nil))) (fun _ _ h => h) c287
theorem k288 : EnOk Tryz.prog e288 := en_ok mixed (all_cons k95 (all_cons k284 (all_cons k285 (all_cons k205 (all_cons k256 (all_cons k207 (all_cons k257 all_nil))))))) (fun _ _ h => h) c288
theorem k289 : EnOk Tryz.prog e289 := en_ok mixed (all_cons k95 (all_cons k284 (all_cons k285 (all_cons k212 (all_cons k256 (all_cons k207 (all_cons k263 all_nil))))))) (fun _ _ h => h) c289
theorem k290 : EnOk Tryz.prog e290 := en_ok mixed (all_cons k95 (all_cons k284 (all_cons k285 (all_cons k205 (all_cons k206 (all_cons k207 (all_cons k208 all_nil))))))) (fun _ _ h => h) c290
theorem k291 : EnOk Tryz.prog e291 := en_ok mixed (all_cons k95 (all_cons k284 (all_cons k285 (all_cons k205 (all_cons k206 (all_cons k207 (all_cons k208 all_nil))))))) (fun _ _ h => h) c291
theorem k292 : EnOk Tryz.prog e292 := en_ok mixed (all_cons k95 (all_cons k284 (all_cons k285 (all_cons k212 (all_cons k206 (all_cons k207 (all_cons k213 all_nil))))))) (fun _ _ h => h) c292
theorem k293 : EnOk Tryz.prog e293 := en_ok mixed (all_cons k95 (all_cons k284 (all_cons k285 (all_cons k212 (all_cons k206 (all_cons k207 (all_cons k213 all_nil))))))) (fun _ _ h => h) c293
theorem k294 : EnOk Tryz.prog e294 := en_ok mixed (all_cons k95 (all_cons k284 (all_cons k285 (all_cons k205 (all_cons k269 (all_cons k207 (all_cons k270 all_nil))))))) (fun _ _ h => h) c294
theorem k295 : EnOk Tryz.prog e295 := en_ok mixed (all_cons k95 (all_cons k284 (all_cons k285 (all_cons k205 (all_cons k269 (all_cons k207 (all_cons k270 all_nil))))))) (fun _ _ h => h) c295
theorem k296 : EnOk Tryz.prog e296 := en_ok mixed (all_cons k95 (all_cons k284 (all_cons k285 (all_cons k212 (all_cons k269 (all_cons k207 (all_cons k277 all_nil))))))) (fun _ _ h => h) c296
theorem k297 : EnOk Tryz.prog e297 := en_ok mixed (all_cons k95 (all_cons k284 (all_cons k285 (all_cons k212 (all_cons k269 (all_cons k207 (all_cons k277 all_nil))))))) (fun _ _ h => h) c297
theorem k298 : EnOk Tryz.prog e298 := en_ok mixed all_nil (fun _ _ h => h) c298
theorem k299 : EnOk Tryz.prog e299 := en_ok mixed (all_cons k287 (all_cons k136 (all_cons k137 (all_cons k255 (all_cons k288 (all_cons k260 (all_cons k169 (all_cons k262 (all_cons k289 (all_cons k266 (all_cons k165 (all_cons k290 (all_cons k168 (all_cons k291 (all_cons k195 (all_cons k292 (all_cons k197 (all_cons k293 (all_cons k268 (all_cons k294 (all_cons k273 (all_cons k295 (all_cons k276 (all_cons k296 (all_cons k280 (all_cons k297 (all_cons k298 all_nil))))))))))))))))))))))))))) (fun _ _ h => h) c299
theorem k300 : EnOk Tryz.prog e300 := en_ok mixed (all_cons k107 (all_cons k136 all_nil)) (fun _ _ h => h) c300
theorem k301 : EnOk Tryz.prog e301 := en_ok mixed (all_cons k107 (all_cons k136 (all_cons k137 (all_cons k165 (all_cons k233 (all_cons k168 (all_cons k235 (all_cons k169 (all_cons k195 (all_cons k243 (all_cons k197 (all_cons k245 all_nil)))))))))))) (fun _ _ h => h) c301
theorem k302 : EnOk Tryz.prog e302 := en_ok mixed all_nil (fun _ _ h => h) c302
theorem k303 : EnOk Tryz.prog e303 := en_ok mixed all_nil (fun _ _ h => h) c303
theorem k304 : EnOk Tryz.prog e304 := en_ok mixed (all_cons k302 (all_cons k303 all_nil)) (fun _ _ h => h) c304
theorem k305 : EnOk Tryz.prog e305 := en_ok mixed all_nil (fun _ _ h => h) c305
theorem k306 : EnOk Tryz.prog e306 := en_ok mixed (all_cons k305 all_nil) (fun _ _ h => h) c306
theorem k307 : EnOk Tryz.prog e307 := en_ok mixed all_nil (fun _ _ h => h) c307
theorem k308 : EnOk Tryz.prog e308 := en_ok mixed (all_cons k307 all_nil) (fun _ _ h => h) c308
theorem k309 : EnOk Tryz.prog e309 := en_ok mixed all_nil (fun _ _ h => h) c309
theorem k310 : EnOk Tryz.prog e310 := en_ok mixed (all_cons k302 (all_cons k303 all_nil)) (fun _ _ h => h) c310
theorem k311 : EnOk Tryz.prog e311 := en_ok mixed (all_cons k217 all_nil) (fun _ _ h => h) c311
theorem k312 : EnOk Tryz.prog e312 := en_ok mixed (all_cons k199 (all_cons k311 all_nil)) (fun _ _ h => h) c312
theorem k313 : EnOk Tryz.prog e313 := en_ok mixed (all_cons k64 (all_cons k109 all_nil)) (fun _ _ h => h) c313
theorem k314 : EnOk Tryz.prog e314 := en_ok mixed (all_cons k95 (all_cons k205 (all_cons k256 (all_cons k218 (all_cons k313 all_nil))))) (fun _ _ h => h) c314
theorem k315 : EnOk Tryz.prog e315 := en_ok mixed (all_cons k95 (all_cons k212 (all_cons k256 (all_cons k218 (all_cons k313 all_nil))))) (fun _ _ h => h) c315
theorem k316 : EnOk Tryz.prog e316 := en_ok mixed (all_cons k107 (all_cons k136 (all_cons k137 (all_cons k255 (all_cons k260 (all_cons k169 (all_cons k262 (all_cons k266 (all_cons k314 (all_cons k315 all_nil)))))))))) (fun _ _ h => h) c316
theorem k317 : EnOk Tryz.prog e317 := en_ok mixed (all_cons k316 all_nil) (fun _ _ h => h) c317
theorem k318 : EnOk Tryz.prog e318 := en_ok mixed (all_cons k0 (all_cons k317 all_nil)) (fun _ _ h => h) c318
theorem k319 : EnOk Tryz.prog e319 := en_ok mixed (all_cons k107 (all_cons k136 (all_cons k137 (all_cons k165 (all_cons k233 (all_cons k168 (all_cons k235 (all_cons k169 (all_cons k195 (all_cons k243 (all_cons k197 (all_cons k245 (all_cons k221 (all_cons k223 all_nil)))))))))))))) (fun _ _ h => h) c319
theorem k320 : EnOk Tryz.prog e320 := en_ok mixed (all_cons k319 all_nil) (fun _ _ h => h) c320
theorem k321 : EnOk Tryz.prog e321 := en_ok mixed (all_cons k0 (all_cons k320 all_nil)) (fun _ _ h => h) c321
theorem k322 : EnOk Tryz.prog e322 := en_ok mixed (all_cons k0 (all_cons k198 (all_cons k199 (all_cons k200 (all_cons k216 (all_cons k217 (all_cons k252 (all_cons k253 (all_cons k282 (all_cons k283 (all_cons k299 (all_cons k300 (all_cons k301 (all_cons k304 (all_cons k306 (all_cons k308 (all_cons k309 (all_cons k310 (all_cons k312 (all_cons k318 (all_cons k321 all_nil))))))))))))))))))))) (fun _ _ h => h) c322
theorem k323 : EnOk Tryz.prog e323 := en_ok mixed all_nil (fun _ _ h => h) c323
theorem k324 : EnOk Tryz.prog e324 := en_ok mixed (all_cons k1 (all_cons k4 (all_cons k6 (all_cons k11 (all_cons k12 (all_cons k13 (all_cons k15 (all_cons k17 (all_cons k18 (all_cons k19 (all_cons k20 (all_cons k23 (all_cons k24 (all_cons k25 (all_cons k27 (all_cons k28 (all_cons k32 (all_cons k33 (all_cons k34 (all_cons k35 (all_cons k39 (all_cons k40 (all_cons k41 (all_cons k42 (all_cons k43 (all_cons k44 (all_cons k46 (all_cons k47 (all_cons k48 (all_cons k49 (all_cons k50 (all_cons k51 (all_cons k52 (all_cons k53 (all_cons k54 (all_cons k55 (all_cons k56 (all_cons k57 (all_cons k58 (all_cons k59 (all_cons k60 (all_cons k61 (all_cons k62 (all_cons k63 (all_cons k113 (all_cons k323 all_nil)))))))))))))))))))))))))))))))))))))))))))))) (fun _ _ h => h) c324
theorem k325 : EnOk Tryz.prog e325 := en_ok mixed (all_cons k324 all_nil) (fun _ _ h => h) c325
theorem k326 : EnOk Tryz.prog e326 := en_ok mixed (all_cons k155 (all_cons k64 (all_cons k156 (all_cons k115 (all_cons k157 (all_cons k158 (all_cons k120 (all_cons k159 (all_cons k160 (all_cons k161 (all_cons k162 (all_cons k325 (all_cons k163 all_nil))))))))))))) (fun _ _ h => h) c326
theorem k327 : EnOk Tryz.prog e327 := en_ok mixed (all_cons k326 all_nil) (fun _ _ h => h) c327
theorem k328 : EnOk Tryz.prog e328 := en_ok mixed (all_cons k187 (all_cons k64 (all_cons k188 (all_cons k115 (all_cons k189 (all_cons k190 (all_cons k120 (all_cons k191 (all_cons k192 (all_cons k134 (all_cons k193 (all_cons k162 (all_cons k325 (all_cons k163 all_nil)))))))))))))) (fun _ _ h => h) c328
theorem k329 : EnOk Tryz.prog e329 := en_ok mixed (all_cons k328 all_nil) (fun _ _ h => h) c329
theorem k330 : EnOk Tryz.prog e330 := en_ok mixed (all_cons k107 (all_cons k136 (all_cons k137 (all_cons k327 (all_cons k169 (all_cons k329 all_nil)))))) (fun _ _ h => h) c330
theorem k331 : EnOk Tryz.prog e331 := en_ok mixed (all_cons k155 (all_cons k64 (all_cons k156 (all_cons k115 (all_cons k157 (all_cons k158 (all_cons k120 (all_cons k159 (all_cons k160 (all_cons k161 (all_cons k162 (all_cons k325 (all_cons k163 all_nil))))))))))))) (fun _ _ h => h) c331
theorem k332 : EnOk Tryz.prog e332 := en_ok mixed (all_cons k331 all_nil) (fun _ _ h => h) c332
theorem k333 : EnOk Tryz.prog e333 := en_ok mixed (all_cons k187 (all_cons k64 (all_cons k188 (all_cons k115 (all_cons k189 (all_cons k190 (all_cons k120 (all_cons k191 (all_cons k192 (all_cons k134 (all_cons k193 (all_cons k162 (all_cons k325 (all_cons k163 all_nil)))))))))))))) (fun _ _ h => h) c333
theorem k334 : EnOk Tryz.prog e334 := en_ok mixed (all_cons k333 all_nil) (fun _ _ h => h) c334
theorem k335 : EnOk Tryz.prog e335 := en_ok mixed (all_cons k107 (all_cons k136 (all_cons k137 (all_cons k332 (all_cons k169 (all_cons k334 all_nil)))))) (fun _ _ h => h) c335
theorem k336 : EnOk Tryz.prog e336 := en_ok mixed all_nil (fun _ _ h => h) c336
theorem k337 : EnOk Tryz.prog e337 := en_ok mixed (all_cons k202 (all_cons k136 (all_cons k324 (all_cons k137 (all_cons k165 (all_cons k209 (all_cons k168 (all_cons k210 (all_cons k169 (all_cons k195 (all_cons k214 (all_cons k197 (all_cons k215 all_nil))))))))))))) (fun _ _ h => h) c337
theorem k338 : EnOk Tryz.prog e338 := en_ok mixed (all_cons k303 all_nil) (fun _ _ h => h) c338
theorem k339 : EnOk Tryz.prog e339 := en_ok mixed all_nil (fun _ _ h => h) c339
theorem k340 : EnOk Tryz.prog e340 := en_ok mixed (all_cons k107 (all_cons k136 (all_cons k137 (all_cons k165 (all_cons k168 (all_cons k169 (all_cons k195 (all_cons k197 (all_cons k220 (all_cons k221 (all_cons k222 (all_cons k223 all_nil)))))))))))) (fun _ _ h => h) c340
theorem k341 : EnOk Tryz.prog e341 := en_ok mixed (all_cons k340 all_nil) (fun _ _ h => h) c341
theorem k342 : EnOk Tryz.prog e342 := en_ok mixed all_nil (fun _ _ h => h) c342
theorem k343 : EnOk Tryz.prog e343 := en_ok mixed (all_cons k95 (all_cons k284 (all_cons k342 all_nil))) (fun _ _ h => h) c343
theorem k344 : EnOk Tryz.prog e344 := en_ok mixed (all_cons k104 (all_cons k343 all_nil)) (fun _ _ h => h) c344
theorem k345 : EnOk Tryz.prog e345 := en_ok mixed (all_cons k344 all_nil) (fun _ _ h => h) c345
theorem k346 : EnOk Tryz.prog e346 := en_ok mixed (all_cons k1 (all_cons k4 (all_cons k6 (all_cons k11 (all_cons k12 (all_cons k13 (all_cons k15 (all_cons k17 (all_cons k18 (all_cons k19 (all_cons k20 (all_cons k23 (all_cons k24 (all_cons k25 (all_cons k27 (all_cons k28 (all_cons k32 (all_cons k33 (all_cons k34 (all_cons k35 (all_cons k39 (all_cons k40 (all_cons k41 (all_cons k42 (all_cons k43 (all_cons k44 (all_cons k46 (all_cons k47 (all_cons k48 (all_cons k49 (all_cons k50 (all_cons k51 (all_cons k52 (all_cons k53 (all_cons k54 (all_cons k55 (all_cons k56 (all_cons k57 (all_cons k58 (all_cons k59 (all_cons k60 (all_cons k61 (all_cons k62 (all_cons k63 all_nil)))))))))))))))))))))))))))))))))))))))))))) (fun _ _ h => h) c346
theorem k347 : EnOk Tryz.prog e347 := en_ok mixed (all_cons k95 (all_cons k346 all_nil)) (fun _ _ h => h) c347
theorem k348 : EnOk Tryz.prog e348 := en_ok mixed (all_cons k347 all_nil) (fun _ _ h => h) c348
theorem k349 : EnOk Tryz.prog e349 := en_ok mixed (all_cons k348 all_nil) (fun _ _ h => h) c349
theorem k350 : EnOk Tryz.prog e350 := en_ok mixed all_nil (fun _ _ h => h) c350
theorem k351 : EnOk Tryz.prog e351 := en_ok mixed (all_cons k104 (all_cons k105 (all_cons k350 all_nil))) (fun _ _ h => h) c351
theorem k352 : EnOk Tryz.prog e352 := en_ok mixed (all_cons k351 all_nil) (fun _ _ h => h) c352
theorem k353 : EnOk Tryz.prog e353 := en_ok mixed (all_cons k107 all_nil) (fun _ _ h => h) c353
theorem k354 : EnOk Tryz.prog e354 := en_ok mixed (all_cons k107 all_nil) (fun _ _ h => h) c354
theorem k355 : EnOk Tryz.prog e355 := en_ok mixed all_nil (fun _ _ h => h) c355
theorem k356 : EnOk Tryz.prog e356 := en_ok mixed all_nil (fun _ _ h => h) c356
theorem k357 : EnOk Tryz.prog e357 := en_ok mixed (all_cons k355 (all_cons k356 (all_cons k166 all_nil))) (fun _ _ h => h) c357
theorem k358 : EnOk Tryz.prog e358 := en_ok mixed (all_cons k95 (all_cons k96 (all_cons k97 (all_cons k98 (all_cons k99 (all_cons k102 (all_cons k103 (all_cons k357 all_nil)))))))) (fun _ _ h => h) c358
theorem k359 : EnOk Tryz.prog e359 := en_ok mixed (all_cons k358 (all_cons k105 (all_cons k106 all_nil))) (fun _ _ h => h) c359
theorem k360 : EnOk Tryz.prog e360 := en_ok mixed (all_cons k358 (all_cons k108 (all_cons k64 (all_cons k111 (all_cons k115 (all_cons k116 (all_cons k119 (all_cons k120 (all_cons k121 (all_cons k124 (all_cons k125 (all_cons k127 (all_cons k128 (all_cons k130 (all_cons k131 (all_cons k133 (all_cons k134 (all_cons k135 all_nil)))))))))))))))))) (fun _ _ h => h) c360
theorem k361 : EnOk Tryz.prog e361 := en_ok mixed (all_cons k359 (all_cons k360 all_nil)) (fun _ _ h => h) c361
theorem k362 : EnOk Tryz.prog e362 := en_ok mixed all_nil (fun _ _ h => h) c362
theorem k363 : EnOk Tryz.prog e363 := en_ok mixed all_nil (fun _ _ h => h) c363
theorem k364 : EnOk Tryz.prog e364 := en_ok mixed all_nil (fun _ _ h => h) c364
theorem k365 : EnOk Tryz.prog e365 := en_ok mixed all_nil (fun _ _ h => h) c365
theorem k366 : EnOk Tryz.prog e366 := en_ok mixed (all_cons k1 (all_cons k4 (all_cons k6 (all_cons k11 (all_cons k12 (all_cons k13 (all_cons k15 (all_cons k17 (all_cons k18 (all_cons k19 (all_cons k20 (all_cons k23 (all_cons k24 (all_cons k25 (all_cons k27 (all_cons k28 (all_cons k32 (all_cons k33 (all_cons k34 (all_cons k35 (all_cons k39 (all_cons k40 (all_cons k41 (all_cons k42 (all_cons k43 (all_cons k44 (all_cons k46 (all_cons k47 (all_cons k48 (all_cons k49 (all_cons k50 (all_cons k51 (all_cons k52 (all_cons k53 (all_cons k54 (all_cons k55 (all_cons k56 (all_cons k57 (all_cons k58 (all_cons k59 (all_cons k60 (all_cons k61 (all_cons k62 (all_cons k63 (all_cons k363 (all_cons k364 (all_cons k365 all_nil))))))))))))))))))))))))))))))))))))))))))))))) (fun _ _ h => h) c366
theorem k367 : EnOk Tryz.prog e367 := en_ok mixed (all_cons k359 (all_cons k360 (all_cons k366 all_nil))) (fun _ _ h => h) c367
theorem k368 : EnOk Tryz.prog e368 := en_ok mixed (all_cons k107 (all_cons k136 (all_cons k324 (all_cons k137 (all_cons k332 (all_cons k169 (all_cons k334 all_nil))))))) (fun _ _ h => h) c368
theorem k369 : EnOk Tryz.prog e369 := en_ok mixed (all_cons k107 (all_cons k136 all_nil)) (fun _ _ h => h) c369
theorem k370 : EnOk Tryz.prog e370 := en_ok mixed (all_cons k107 (all_cons k136 (all_cons k137 (all_cons k332 (all_cons k169 (all_cons k334 all_nil)))))) (fun _ _ h => h) c370
theorem k371 : EnOk Tryz.prog e371 := en_ok mixed (all_cons k370 all_nil) (fun _ _ h => h) c371
theorem k372 : EnOk Tryz.prog e372 := en_ok mixed (all_cons k202 (all_cons k136 (all_cons k137 (all_cons k165 (all_cons k168 (all_cons k169 (all_cons k195 (all_cons k197 (all_cons k209 (all_cons k210 (all_cons k214 (all_cons k215 all_nil)))))))))))) (fun _ _ h => h) c372
theorem k373 : EnOk Tryz.prog e373 := en_ok mixed (all_cons k107 (all_cons k136 all_nil)) (fun _ _ h => h) c373
theorem k374 : EnOk Tryz.prog e374 := en_ok mixed (all_cons k322 (all_cons k0 (all_cons k330 (all_cons k335 (all_cons k199 (all_cons k336 (all_cons k337 (all_cons k338 (all_cons k339 (all_cons k341 (all_cons k345 (all_cons k349 (all_cons k352 (all_cons k353 (all_cons k354 (all_cons k361 (all_cons k362 (all_cons k367 (all_cons k368 (all_cons k369 (all_cons k371 (all_cons k372 (all_cons k373 (all_cons k344 all_nil)))))))))))))))))))))))) (fun _ _ h => h) c374
end Go.Am
