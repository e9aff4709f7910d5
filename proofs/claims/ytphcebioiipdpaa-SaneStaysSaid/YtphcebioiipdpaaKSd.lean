/- Joined: XTypes, XTEq. -/
import Derived.Test.YtphcebioiipdpaaRows
import Derived.KernelRfl
import Derived.Test.YtphcebioiipdpaaKSc
import Derived.Laws.StructEq
/- Zero, cells and bytes of the types that the program's operations name. -/
namespace Go.Proofs.Ytphcebioiipdpaa
set_option linter.unusedVariables false
set_option linter.unusedSimpArgs false
set_option linter.unnecessarySimpa false
theorem inf3 : (Try.prog.info? 3).map (fun i => (i.zero, i.size, i.bytes)) = some (some (.int .i64 0), 1, 8) := by kernel_rfl
theorem inf4 : (Try.prog.info? 4).map (fun i => (i.zero, i.size, i.bytes)) = some (some (.bool false), 1, 1) := by kernel_rfl
theorem inf22 : (Try.prog.info? 22).map (fun i => (i.zero, i.size, i.bytes)) = some (some (.slice none 0 0), 1, 24) := by kernel_rfl
theorem inf24 : (Try.prog.info? 24).map (fun i => (i.zero, i.size, i.bytes)) = some (some (.agg #[.int .i64 0, .int .i64 0, .int .i64 0, .int .i64 0, .int .i64 0, .int .i64 0, .int .i64 0, .int .i64 0, .int .i64 0, .int .i64 0, .slice none 0 0]), 11, 104) := by kernel_rfl
theorem inf25 : (Try.prog.info? 25).map (fun i => (i.zero, i.size, i.bytes)) = some (some (.slice none 0 0), 1, 24) := by kernel_rfl
theorem inf26 : (Try.prog.info? 26).map (fun i => (i.zero, i.size, i.bytes)) = some (some (.slice none 0 0), 1, 24) := by kernel_rfl
theorem inf27 : (Try.prog.info? 27).map (fun i => (i.zero, i.size, i.bytes)) = some (some (.slice none 0 0), 1, 24) := by kernel_rfl
theorem inf29 : (Try.prog.info? 29).map (fun i => (i.zero, i.size, i.bytes)) = some (some (.agg #[.int .i64 0, .slice none 0 0, .slice none 0 0, .slice none 0 0]), 4, 80) := by kernel_rfl
theorem inf30 : (Try.prog.info? 30).map (fun i => (i.zero, i.size, i.bytes)) = some (some (.slice none 0 0), 1, 24) := by kernel_rfl
theorem inf32 : (Try.prog.info? 32).map (fun i => (i.zero, i.size, i.bytes)) = some (some (.agg #[.int .i64 0, .int .i64 0, .int .i64 0, .bool false, .slice none 0 0]), 5, 56) := by kernel_rfl
theorem inf43 : (Try.prog.info? 43).map (fun i => (i.zero, i.size, i.bytes)) = some (some (.agg #[.bool false, .int .i64 0, .int .i64 0, .slice none 0 0]), 4, 48) := by kernel_rfl
theorem inf45 : (Try.prog.info? 45).map (fun i => (i.zero, i.size, i.bytes)) = some (some (.agg #[.int .i64 0, .int .i64 0, .int .i64 0]), 3, 24) := by kernel_rfl
theorem inf48 : (Try.prog.info? 48).map (fun i => (i.zero, i.size, i.bytes)) = some (some (.int .i64 0), 1, 8) := by kernel_rfl
theorem inf50 : (Try.prog.info? 50).map (fun i => (i.zero, i.size, i.bytes)) = some (some (.agg #[.int .i64 0, .int .i64 0, .int .i64 0, .int .i64 0]), 4, 32) := by kernel_rfl
theorem inf59 : (Try.prog.info? 59).map (fun i => (i.zero, i.size, i.bytes)) = some (some (.agg #[.int .i64 0, .int .i64 0, .int .i64 0, .int .i64 0, .bool false, .slice none 0 0]), 6, 64) := by kernel_rfl
theorem inf66 : (Try.prog.info? 66).map (fun i => (i.zero, i.size, i.bytes)) = some (some (.agg #[.int .i64 0, .int .i64 0, .bool false, .bool false, .slice none 0 0]), 5, 48) := by kernel_rfl
theorem inf70 : (Try.prog.info? 70).map (fun i => (i.zero, i.size, i.bytes)) = some (some (.agg #[.int .i64 0, .slice none 0 0, .slice none 0 0, .slice none 0 0, .int .i64 0, .int .i64 0, .int .i64 0, .int .i64 0, .int .i64 0, .int .i64 0, .int .i64 0, .int .i64 0, .int .i64 0, .int .i64 0, .slice none 0 0, .int .i64 0, .int .i64 0]), 17, 200) := by kernel_rfl
theorem inf124 : (Try.prog.info? 124).map (fun i => (i.zero, i.size, i.bytes)) = some (some (.agg #[.int .i64 0, .int .i64 0, .int .i64 0, .int .i64 0, .int .i64 0]), 5, 40) := by kernel_rfl
abbrev ud0 := @Try.underlying0
abbrev ud1 := @Try.underlying1
abbrev ud2 := @Try.underlying2
abbrev ud3 := @Try.underlying3
abbrev ud4 := @Try.underlying4
abbrev ud5 := @Try.underlying5
abbrev ud6 := @Try.underlying6
abbrev ud7 := @Try.underlying7
abbrev ud8 := @Try.underlying8
abbrev ud9 := @Try.underlying9
abbrev ud10 := @Try.underlying10
abbrev ud11 := @Try.underlying11
abbrev ud12 := @Try.underlying12
abbrev ud13 := @Try.underlying13
abbrev ud14 := @Try.underlying14
abbrev ud15 := @Try.underlying15
abbrev ud16 := @Try.underlying16
abbrev ud17 := @Try.underlying17
abbrev ud18 := @Try.underlying18
abbrev ud19 := @Try.underlying19
abbrev ud20 := @Try.underlying20
abbrev ud21 := @Try.underlying21
abbrev ud22 := @Try.underlying22
abbrev ud23 := @Try.underlying23
abbrev ud24 := @Try.underlying24
abbrev ud25 := @Try.underlying25
abbrev ud26 := @Try.underlying26
abbrev ud27 := @Try.underlying27
abbrev ud28 := @Try.underlying28
abbrev ud29 := @Try.underlying29
abbrev ud30 := @Try.underlying30
abbrev ud31 := @Try.underlying31
abbrev ud32 := @Try.underlying32
abbrev ud33 := @Try.underlying33
abbrev ud34 := @Try.underlying34
abbrev ud35 := @Try.underlying35
abbrev ud36 := @Try.underlying36
abbrev ud37 := @Try.underlying37
abbrev ud38 := @Try.underlying38
abbrev ud39 := @Try.underlying39
abbrev ud40 := @Try.underlying40
abbrev ud41 := @Try.underlying41
abbrev ud42 := @Try.underlying42
abbrev ud43 := @Try.underlying43
abbrev ud44 := @Try.underlying44
abbrev ud45 := @Try.underlying45
abbrev ud46 := @Try.underlying46
abbrev ud47 := @Try.underlying47
abbrev ud48 := @Try.underlying48
abbrev ud49 := @Try.underlying49
abbrev ud50 := @Try.underlying50
abbrev ud51 := @Try.underlying51
abbrev ud52 := @Try.underlying52
abbrev ud53 := @Try.underlying53
abbrev ud54 := @Try.underlying54
abbrev ud55 := @Try.underlying55
abbrev ud56 := @Try.underlying56
abbrev ud57 := @Try.underlying57
abbrev ud58 := @Try.underlying58
abbrev ud59 := @Try.underlying59
abbrev ud60 := @Try.underlying60
abbrev ud61 := @Try.underlying61
abbrev ud62 := @Try.underlying62
abbrev ud63 := @Try.underlying63
abbrev ud64 := @Try.underlying64
abbrev ud65 := @Try.underlying65
abbrev ud66 := @Try.underlying66
abbrev ud67 := @Try.underlying67
abbrev ud68 := @Try.underlying68
abbrev ud69 := @Try.underlying69
abbrev ud70 := @Try.underlying70
abbrev ud71 := @Try.underlying71
abbrev ud72 := @Try.underlying72
abbrev ud73 := @Try.underlying73
abbrev ud74 := @Try.underlying74
abbrev ud75 := @Try.underlying75
abbrev ud76 := @Try.underlying76
abbrev ud77 := @Try.underlying77
abbrev ud78 := @Try.underlying78
abbrev ud79 := @Try.underlying79
abbrev ud80 := @Try.underlying80
abbrev ud81 := @Try.underlying81
abbrev ud82 := @Try.underlying82
abbrev ud83 := @Try.underlying83
abbrev ud84 := @Try.underlying84
abbrev ud85 := @Try.underlying85
abbrev ud86 := @Try.underlying86
abbrev ud87 := @Try.underlying87
abbrev ud88 := @Try.underlying88
abbrev ud89 := @Try.underlying89
abbrev ud90 := @Try.underlying90
abbrev ud91 := @Try.underlying91
abbrev ud92 := @Try.underlying92
abbrev ud93 := @Try.underlying93
abbrev ud94 := @Try.underlying94
abbrev ud95 := @Try.underlying95
abbrev ud96 := @Try.underlying96
abbrev ud97 := @Try.underlying97
abbrev ud98 := @Try.underlying98
abbrev ud99 := @Try.underlying99
abbrev ud100 := @Try.underlying100
abbrev ud101 := @Try.underlying101
abbrev ud102 := @Try.underlying102
abbrev ud103 := @Try.underlying103
abbrev ud104 := @Try.underlying104
abbrev ud105 := @Try.underlying105
abbrev ud106 := @Try.underlying106
abbrev ud107 := @Try.underlying107
abbrev ud108 := @Try.underlying108
abbrev ud109 := @Try.underlying109
abbrev ud110 := @Try.underlying110
abbrev ud111 := @Try.underlying111
abbrev ud112 := @Try.underlying112
abbrev ud113 := @Try.underlying113
abbrev ud114 := @Try.underlying114
abbrev ud115 := @Try.underlying115
abbrev ud116 := @Try.underlying116
abbrev ud117 := @Try.underlying117
abbrev ud118 := @Try.underlying118
abbrev ud119 := @Try.underlying119
abbrev ud120 := @Try.underlying120
abbrev ud121 := @Try.underlying121
abbrev ud122 := @Try.underlying122
abbrev ud123 := @Try.underlying123
abbrev ud124 := @Try.underlying124
abbrev ud125 := @Try.underlying125
abbrev ud126 := @Try.underlying126
abbrev ud127 := @Try.underlying127
abbrev ud128 := @Try.underlying128
abbrev ud129 := @Try.underlying129
abbrev ud130 := @Try.underlying130
abbrev ud131 := @Try.underlying131
abbrev ud132 := @Try.underlying132
abbrev ud133 := @Try.underlying133
abbrev ud134 := @Try.underlying134
abbrev ud135 := @Try.underlying135
abbrev ud136 := @Try.underlying136
abbrev ud137 := @Try.underlying137
abbrev ud138 := @Try.underlying138
abbrev ud139 := @Try.underlying139
abbrev ud140 := @Try.underlying140
abbrev ud141 := @Try.underlying141
abbrev ud142 := @Try.underlying142
abbrev ud143 := @Try.underlying143
abbrev ud144 := @Try.underlying144
abbrev ud145 := @Try.underlying145
abbrev ud146 := @Try.underlying146
abbrev ud147 := @Try.underlying147
abbrev ud148 := @Try.underlying148
abbrev ud149 := @Try.underlying149
abbrev ud150 := @Try.underlying150
abbrev ud151 := @Try.underlying151
abbrev ud152 := @Try.underlying152
abbrev ud153 := @Try.underlying153
abbrev ud154 := @Try.underlying154
abbrev ud155 := @Try.underlying155
abbrev ud156 := @Try.underlying156
abbrev ud157 := @Try.underlying157
abbrev ud158 := @Try.underlying158
abbrev ud159 := @Try.underlying159
abbrev ud160 := @Try.underlying160
end Go.Proofs.Ytphcebioiipdpaa


/- Structs of integers that are held against each other with '=='. -/
namespace Go.Proofs.Ytphcebioiipdpaa
set_option linter.unusedVariables false
set_option linter.unusedSimpArgs false
set_option linter.unnecessarySimpa false
open Go.RowKit
section
variable {P : Program} {w : World}
end
set_option maxHeartbeats 4000000
end Go.Proofs.Ytphcebioiipdpaa

