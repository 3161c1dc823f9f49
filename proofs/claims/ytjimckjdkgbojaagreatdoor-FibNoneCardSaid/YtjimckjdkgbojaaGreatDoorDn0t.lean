/- What the tables of the program say: printed by tables.py. -/
import Derived.Test.YtjimckjdkgbojaaGreatDoorProg
import Derived.KernelRfl
import Derived.Test.YtjimckjdkgbojaaGreatDoorDn0
namespace Go.Abs.D1
open Go.Proofs
theorem hasBx7 : hasB Tryz.prog 7 = Bool.true := by kernel_rfl
theorem hasBx8 : hasB Tryz.prog 8 = Bool.true := by kernel_rfl
theorem hasBx9 : hasB Tryz.prog 9 = Bool.true := by kernel_rfl
theorem hasBx10 : hasB Tryz.prog 10 = Bool.true := by kernel_rfl
theorem hasBx11 : hasB Tryz.prog 11 = Bool.true := by kernel_rfl
theorem hasBx12 : hasB Tryz.prog 12 = Bool.true := by kernel_rfl
theorem hasBx13 : hasB Tryz.prog 13 = Bool.true := by kernel_rfl
theorem hasBx14 : hasB Tryz.prog 14 = Bool.true := by kernel_rfl
theorem hasBx15 : hasB Tryz.prog 15 = Bool.true := by kernel_rfl
theorem hasBx16 : hasB Tryz.prog 16 = Bool.true := by kernel_rfl
theorem hasBx17 : hasB Tryz.prog 17 = Bool.true := by kernel_rfl
theorem hasBx18 : hasB Tryz.prog 18 = Bool.true := by kernel_rfl
theorem hasBx19 : hasB Tryz.prog 19 = Bool.true := by kernel_rfl
theorem hasBx20 : hasB Tryz.prog 20 = Bool.true := by kernel_rfl
theorem hasBx21 : hasB Tryz.prog 21 = Bool.true := by kernel_rfl
theorem hasBx22 : hasB Tryz.prog 22 = Bool.true := by kernel_rfl
theorem hasBx23 : hasB Tryz.prog 23 = Bool.true := by kernel_rfl
theorem hasBx24 : hasB Tryz.prog 24 = Bool.true := by kernel_rfl
theorem hasBx25 : hasB Tryz.prog 25 = Bool.true := by kernel_rfl
theorem hasBx26 : hasB Tryz.prog 26 = Bool.true := by kernel_rfl
theorem hasBx27 : hasB Tryz.prog 27 = Bool.true := by kernel_rfl
theorem hasBx28 : hasB Tryz.prog 28 = Bool.true := by kernel_rfl
theorem hasBx29 : hasB Tryz.prog 29 = Bool.true := by kernel_rfl
theorem hasBx30 : hasB Tryz.prog 30 = Bool.true := by kernel_rfl
theorem hasBx31 : hasB Tryz.prog 31 = Bool.true := by kernel_rfl
theorem hasBx32 : hasB Tryz.prog 32 = Bool.true := by kernel_rfl
theorem hasBx33 : hasB Tryz.prog 33 = Bool.true := by kernel_rfl
theorem hasBx34 : hasB Tryz.prog 34 = Bool.true := by kernel_rfl
theorem hasBx35 : hasB Tryz.prog 35 = Bool.true := by kernel_rfl
theorem hasBx36 : hasB Tryz.prog 36 = Bool.true := by kernel_rfl
theorem hasBx37 : hasB Tryz.prog 37 = Bool.true := by kernel_rfl
theorem hasBx38 : hasB Tryz.prog 38 = Bool.true := by kernel_rfl
theorem hasBx39 : hasB Tryz.prog 39 = Bool.true := by kernel_rfl
theorem hasBx40 : hasB Tryz.prog 40 = Bool.true := by kernel_rfl
theorem hasBx41 : hasB Tryz.prog 41 = Bool.true := by kernel_rfl
theorem hasBx42 : hasB Tryz.prog 42 = Bool.true := by kernel_rfl
theorem hasBx43 : hasB Tryz.prog 43 = Bool.true := by kernel_rfl
theorem hasBx44 : hasB Tryz.prog 44 = Bool.true := by kernel_rfl
theorem hasBx45 : hasB Tryz.prog 45 = Bool.true := by kernel_rfl
theorem hasBx46 : hasB Tryz.prog 46 = Bool.true := by kernel_rfl
theorem hasBx47 : hasB Tryz.prog 47 = Bool.true := by kernel_rfl
theorem hasBx48 : hasB Tryz.prog 48 = Bool.true := by kernel_rfl
theorem hasBx49 : hasB Tryz.prog 49 = Bool.true := by kernel_rfl
theorem hasBx50 : hasB Tryz.prog 50 = Bool.true := by kernel_rfl
theorem hasBx51 : hasB Tryz.prog 51 = Bool.true := by kernel_rfl
theorem hasBx52 : hasB Tryz.prog 52 = Bool.true := by kernel_rfl
theorem hasBx53 : hasB Tryz.prog 53 = Bool.true := by kernel_rfl
theorem hasBx54 : hasB Tryz.prog 54 = Bool.true := by kernel_rfl
theorem hasBx55 : hasB Tryz.prog 55 = Bool.true := by kernel_rfl
theorem hasBx56 : hasB Tryz.prog 56 = Bool.true := by kernel_rfl
theorem hasBx57 : hasB Tryz.prog 57 = Bool.true := by kernel_rfl
theorem hasBx58 : hasB Tryz.prog 58 = Bool.true := by kernel_rfl
theorem hasBx59 : hasB Tryz.prog 59 = Bool.true := by kernel_rfl
theorem hasBx60 : hasB Tryz.prog 60 = Bool.true := by kernel_rfl
theorem hasBx61 : hasB Tryz.prog 61 = Bool.true := by kernel_rfl
theorem hasBx62 : hasB Tryz.prog 62 = Bool.true := by kernel_rfl
theorem hasBx63 : hasB Tryz.prog 63 = Bool.true := by kernel_rfl
theorem hasBx64 : hasB Tryz.prog 64 = Bool.true := by kernel_rfl
theorem hasBx65 : hasB Tryz.prog 65 = Bool.true := by kernel_rfl
theorem hasBx66 : hasB Tryz.prog 66 = Bool.true := by kernel_rfl
theorem hasBx67 : hasB Tryz.prog 67 = Bool.true := by kernel_rfl
theorem hasBx68 : hasB Tryz.prog 68 = Bool.true := by kernel_rfl
theorem hasBx69 : hasB Tryz.prog 69 = Bool.true := by kernel_rfl
theorem hasBx70 : hasB Tryz.prog 70 = Bool.true := by kernel_rfl
theorem hasBx71 : hasB Tryz.prog 71 = Bool.true := by kernel_rfl
theorem hasBx72 : hasB Tryz.prog 72 = Bool.true := by kernel_rfl
theorem hasBx73 : hasB Tryz.prog 73 = Bool.true := by kernel_rfl
theorem hasBx74 : hasB Tryz.prog 74 = Bool.true := by kernel_rfl
theorem hasBx75 : hasB Tryz.prog 75 = Bool.true := by kernel_rfl
theorem hasBx76 : hasB Tryz.prog 76 = Bool.true := by kernel_rfl
theorem hasBx77 : hasB Tryz.prog 77 = Bool.true := by kernel_rfl
theorem hasBx78 : hasB Tryz.prog 78 = Bool.true := by kernel_rfl
theorem hasBx79 : hasB Tryz.prog 79 = Bool.true := by kernel_rfl
theorem hasBx80 : hasB Tryz.prog 80 = Bool.true := by kernel_rfl
theorem hasBx81 : hasB Tryz.prog 81 = Bool.true := by kernel_rfl
theorem hasBx82 : hasB Tryz.prog 82 = Bool.true := by kernel_rfl
theorem hasBx83 : hasB Tryz.prog 83 = Bool.true := by kernel_rfl
theorem hasBx84 : hasB Tryz.prog 84 = Bool.true := by kernel_rfl
theorem hasBx85 : hasB Tryz.prog 85 = Bool.true := by kernel_rfl
theorem hasBx86 : hasB Tryz.prog 86 = Bool.true := by kernel_rfl
theorem hasBx87 : hasB Tryz.prog 87 = Bool.true := by kernel_rfl
theorem hasBx88 : hasB Tryz.prog 88 = Bool.true := by kernel_rfl
theorem hasBx89 : hasB Tryz.prog 89 = Bool.true := by kernel_rfl
theorem hasBx90 : hasB Tryz.prog 90 = Bool.true := by kernel_rfl
theorem hasBx91 : hasB Tryz.prog 91 = Bool.true := by kernel_rfl
theorem hasBx92 : hasB Tryz.prog 92 = Bool.true := by kernel_rfl
theorem hasBx93 : hasB Tryz.prog 93 = Bool.true := by kernel_rfl
theorem hasBx94 : hasB Tryz.prog 94 = Bool.true := by kernel_rfl
theorem hasBx95 : hasB Tryz.prog 95 = Bool.true := by kernel_rfl
theorem hasBx96 : hasB Tryz.prog 96 = Bool.true := by kernel_rfl
theorem hasBx97 : hasB Tryz.prog 97 = Bool.true := by kernel_rfl
theorem hasBx98 : hasB Tryz.prog 98 = Bool.true := by kernel_rfl
theorem hasBx99 : hasB Tryz.prog 99 = Bool.true := by kernel_rfl
theorem hasBx100 : hasB Tryz.prog 100 = Bool.true := by kernel_rfl
theorem hasBx101 : hasB Tryz.prog 101 = Bool.true := by kernel_rfl
theorem hasBx102 : hasB Tryz.prog 102 = Bool.true := by kernel_rfl
theorem hasBx103 : hasB Tryz.prog 103 = Bool.true := by kernel_rfl
theorem hasBx104 : hasB Tryz.prog 104 = Bool.true := by kernel_rfl
theorem hasBx105 : hasB Tryz.prog 105 = Bool.true := by kernel_rfl
theorem hasBx106 : hasB Tryz.prog 106 = Bool.true := by kernel_rfl
theorem hasBx107 : hasB Tryz.prog 107 = Bool.true := by kernel_rfl
theorem hasBx108 : hasB Tryz.prog 108 = Bool.true := by kernel_rfl
theorem hasBx109 : hasB Tryz.prog 109 = Bool.true := by kernel_rfl
theorem hasBx110 : hasB Tryz.prog 110 = Bool.true := by kernel_rfl
theorem hasBx111 : hasB Tryz.prog 111 = Bool.true := by kernel_rfl
theorem hasBx112 : hasB Tryz.prog 112 = Bool.true := by kernel_rfl
theorem hasBx113 : hasB Tryz.prog 113 = Bool.true := by kernel_rfl
theorem hasBx114 : hasB Tryz.prog 114 = Bool.true := by kernel_rfl
theorem hasBx115 : hasB Tryz.prog 115 = Bool.true := by kernel_rfl
theorem hasBx116 : hasB Tryz.prog 116 = Bool.true := by kernel_rfl
theorem hasBx117 : hasB Tryz.prog 117 = Bool.true := by kernel_rfl
theorem hasBx118 : hasB Tryz.prog 118 = Bool.true := by kernel_rfl
theorem hasBx119 : hasB Tryz.prog 119 = Bool.true := by kernel_rfl
theorem hasBx120 : hasB Tryz.prog 120 = Bool.true := by kernel_rfl
theorem hasBx121 : hasB Tryz.prog 121 = Bool.true := by kernel_rfl
theorem hasBx122 : hasB Tryz.prog 122 = Bool.true := by kernel_rfl
theorem hasBx123 : hasB Tryz.prog 123 = Bool.true := by kernel_rfl
theorem hasBx124 : hasB Tryz.prog 124 = Bool.true := by kernel_rfl
theorem hasBx125 : hasB Tryz.prog 125 = Bool.true := by kernel_rfl
theorem hasBx126 : hasB Tryz.prog 126 = Bool.true := by kernel_rfl
theorem hasBx127 : hasB Tryz.prog 127 = Bool.true := by kernel_rfl
theorem hasBx128 : hasB Tryz.prog 128 = Bool.true := by kernel_rfl
theorem hasBx129 : hasB Tryz.prog 129 = Bool.true := by kernel_rfl
theorem hasBx130 : hasB Tryz.prog 130 = Bool.true := by kernel_rfl
theorem hasBx131 : hasB Tryz.prog 131 = Bool.true := by kernel_rfl
theorem hasBx132 : hasB Tryz.prog 132 = Bool.true := by kernel_rfl
theorem hasBx133 : hasB Tryz.prog 133 = Bool.true := by kernel_rfl
theorem hasBx134 : hasB Tryz.prog 134 = Bool.true := by kernel_rfl
theorem hasBx135 : hasB Tryz.prog 135 = Bool.true := by kernel_rfl
theorem hasBx136 : hasB Tryz.prog 136 = Bool.true := by kernel_rfl
theorem hasBx137 : hasB Tryz.prog 137 = Bool.true := by kernel_rfl
theorem hasBx138 : hasB Tryz.prog 138 = Bool.true := by kernel_rfl
theorem hasBx139 : hasB Tryz.prog 139 = Bool.true := by kernel_rfl
theorem hasBx140 : hasB Tryz.prog 140 = Bool.true := by kernel_rfl
theorem hasBx141 : hasB Tryz.prog 141 = Bool.true := by kernel_rfl
theorem hasBx142 : hasB Tryz.prog 142 = Bool.true := by kernel_rfl
theorem hasBx143 : hasB Tryz.prog 143 = Bool.true := by kernel_rfl
theorem hasBx144 : hasB Tryz.prog 144 = Bool.true := by kernel_rfl
theorem hasBx145 : hasB Tryz.prog 145 = Bool.true := by kernel_rfl
theorem hasBx146 : hasB Tryz.prog 146 = Bool.true := by kernel_rfl
theorem hasBx147 : hasB Tryz.prog 147 = Bool.true := by kernel_rfl
theorem hasBx148 : hasB Tryz.prog 148 = Bool.true := by kernel_rfl
theorem hasBx149 : hasB Tryz.prog 149 = Bool.true := by kernel_rfl
theorem hasBx150 : hasB Tryz.prog 150 = Bool.true := by kernel_rfl
theorem hasBx151 : hasB Tryz.prog 151 = Bool.true := by kernel_rfl
theorem hasBx152 : hasB Tryz.prog 152 = Bool.true := by kernel_rfl
theorem hasBx153 : hasB Tryz.prog 153 = Bool.true := by kernel_rfl
theorem hasBx154 : hasB Tryz.prog 154 = Bool.true := by kernel_rfl
theorem hasBx155 : hasB Tryz.prog 155 = Bool.true := by kernel_rfl
theorem hasBx156 : hasB Tryz.prog 156 = Bool.true := by kernel_rfl
theorem hasBx157 : hasB Tryz.prog 157 = Bool.true := by kernel_rfl
theorem hasBx158 : hasB Tryz.prog 158 = Bool.true := by kernel_rfl
theorem hasBx159 : hasB Tryz.prog 159 = Bool.true := by kernel_rfl
theorem hasBx160 : hasB Tryz.prog 160 = Bool.true := by kernel_rfl
theorem hasBx161 : hasB Tryz.prog 161 = Bool.true := by kernel_rfl
theorem hasBx162 : hasB Tryz.prog 162 = Bool.true := by kernel_rfl
theorem hasBx163 : hasB Tryz.prog 163 = Bool.true := by kernel_rfl
theorem hasBx164 : hasB Tryz.prog 164 = Bool.true := by kernel_rfl
theorem hasBx165 : hasB Tryz.prog 165 = Bool.true := by kernel_rfl
theorem hasBx166 : hasB Tryz.prog 166 = Bool.true := by kernel_rfl
theorem hasBx168 : hasB Tryz.prog 168 = Bool.true := by kernel_rfl
theorem hasBx169 : hasB Tryz.prog 169 = Bool.true := by kernel_rfl
theorem hasBx170 : hasB Tryz.prog 170 = Bool.true := by kernel_rfl
theorem hasBx171 : hasB Tryz.prog 171 = Bool.true := by kernel_rfl
theorem hasBx172 : hasB Tryz.prog 172 = Bool.true := by kernel_rfl
theorem hasBx173 : hasB Tryz.prog 173 = Bool.true := by kernel_rfl
theorem hasBx174 : hasB Tryz.prog 174 = Bool.true := by kernel_rfl
theorem hasBx175 : hasB Tryz.prog 175 = Bool.true := by kernel_rfl
theorem hasBx176 : hasB Tryz.prog 176 = Bool.true := by kernel_rfl
theorem hasBx177 : hasB Tryz.prog 177 = Bool.true := by kernel_rfl
theorem hasBx178 : hasB Tryz.prog 178 = Bool.true := by kernel_rfl
theorem hasBx179 : hasB Tryz.prog 179 = Bool.true := by kernel_rfl
theorem hasBx180 : hasB Tryz.prog 180 = Bool.true := by kernel_rfl
theorem hasBx181 : hasB Tryz.prog 181 = Bool.true := by kernel_rfl
theorem hasBx182 : hasB Tryz.prog 182 = Bool.true := by kernel_rfl
theorem hasBx183 : hasB Tryz.prog 183 = Bool.true := by kernel_rfl
theorem hasBx184 : hasB Tryz.prog 184 = Bool.true := by kernel_rfl
theorem hasBx185 : hasB Tryz.prog 185 = Bool.true := by kernel_rfl
theorem hasBx186 : hasB Tryz.prog 186 = Bool.true := by kernel_rfl
theorem hasBx187 : hasB Tryz.prog 187 = Bool.true := by kernel_rfl
theorem hasBx188 : hasB Tryz.prog 188 = Bool.true := by kernel_rfl
theorem hasBx189 : hasB Tryz.prog 189 = Bool.true := by kernel_rfl
theorem hasBx190 : hasB Tryz.prog 190 = Bool.true := by kernel_rfl
theorem hasBx191 : hasB Tryz.prog 191 = Bool.true := by kernel_rfl
theorem hasBx192 : hasB Tryz.prog 192 = Bool.true := by kernel_rfl
theorem hasBx193 : hasB Tryz.prog 193 = Bool.true := by kernel_rfl
theorem hasBx194 : hasB Tryz.prog 194 = Bool.true := by kernel_rfl
theorem hasBx195 : hasB Tryz.prog 195 = Bool.true := by kernel_rfl
theorem hasBx196 : hasB Tryz.prog 196 = Bool.true := by kernel_rfl
theorem hasBx197 : hasB Tryz.prog 197 = Bool.true := by kernel_rfl
theorem hasBx198 : hasB Tryz.prog 198 = Bool.true := by kernel_rfl
theorem hasBx199 : hasB Tryz.prog 199 = Bool.true := by kernel_rfl
theorem hasBx200 : hasB Tryz.prog 200 = Bool.true := by kernel_rfl
theorem hasBx201 : hasB Tryz.prog 201 = Bool.true := by kernel_rfl
theorem hasBx202 : hasB Tryz.prog 202 = Bool.true := by kernel_rfl
theorem hasBx203 : hasB Tryz.prog 203 = Bool.true := by kernel_rfl
theorem hasBx204 : hasB Tryz.prog 204 = Bool.true := by kernel_rfl
theorem hasBx205 : hasB Tryz.prog 205 = Bool.true := by kernel_rfl
theorem hasBx206 : hasB Tryz.prog 206 = Bool.true := by kernel_rfl
theorem hasBx207 : hasB Tryz.prog 207 = Bool.true := by kernel_rfl
theorem hasBx208 : hasB Tryz.prog 208 = Bool.true := by kernel_rfl
theorem hasBx209 : hasB Tryz.prog 209 = Bool.true := by kernel_rfl
theorem hasBx210 : hasB Tryz.prog 210 = Bool.true := by kernel_rfl
theorem hasBx211 : hasB Tryz.prog 211 = Bool.true := by kernel_rfl
theorem hasBx212 : hasB Tryz.prog 212 = Bool.true := by kernel_rfl
theorem hasBx213 : hasB Tryz.prog 213 = Bool.true := by kernel_rfl
theorem hasBx214 : hasB Tryz.prog 214 = Bool.true := by kernel_rfl
theorem hasBx215 : hasB Tryz.prog 215 = Bool.true := by kernel_rfl
theorem hasBx216 : hasB Tryz.prog 216 = Bool.true := by kernel_rfl
theorem hasBx217 : hasB Tryz.prog 217 = Bool.true := by kernel_rfl
theorem hasBx218 : hasB Tryz.prog 218 = Bool.true := by kernel_rfl
theorem hasBx219 : hasB Tryz.prog 219 = Bool.true := by kernel_rfl
theorem hasBx220 : hasB Tryz.prog 220 = Bool.true := by kernel_rfl
theorem hasBx221 : hasB Tryz.prog 221 = Bool.true := by kernel_rfl
theorem hasBx222 : hasB Tryz.prog 222 = Bool.true := by kernel_rfl
theorem hasBx223 : hasB Tryz.prog 223 = Bool.true := by kernel_rfl
theorem hasBx224 : hasB Tryz.prog 224 = Bool.true := by kernel_rfl
theorem hasBx225 : hasB Tryz.prog 225 = Bool.true := by kernel_rfl
theorem hasBx226 : hasB Tryz.prog 226 = Bool.true := by kernel_rfl
theorem hasBx227 : hasB Tryz.prog 227 = Bool.true := by kernel_rfl
theorem hasBx228 : hasB Tryz.prog 228 = Bool.true := by kernel_rfl
theorem hasBx229 : hasB Tryz.prog 229 = Bool.true := by kernel_rfl
theorem hasBx230 : hasB Tryz.prog 230 = Bool.true := by kernel_rfl
theorem hasBx231 : hasB Tryz.prog 231 = Bool.true := by kernel_rfl
theorem hasBx232 : hasB Tryz.prog 232 = Bool.true := by kernel_rfl
theorem hasBx233 : hasB Tryz.prog 233 = Bool.true := by kernel_rfl
theorem hasBx234 : hasB Tryz.prog 234 = Bool.true := by kernel_rfl
theorem hasBx235 : hasB Tryz.prog 235 = Bool.true := by kernel_rfl
theorem hasBx236 : hasB Tryz.prog 236 = Bool.true := by kernel_rfl
theorem hasBx237 : hasB Tryz.prog 237 = Bool.true := by kernel_rfl
theorem hasBx238 : hasB Tryz.prog 238 = Bool.true := by kernel_rfl
theorem hasBx239 : hasB Tryz.prog 239 = Bool.true := by kernel_rfl
theorem hasBx240 : hasB Tryz.prog 240 = Bool.true := by kernel_rfl
theorem hasBx241 : hasB Tryz.prog 241 = Bool.true := by kernel_rfl
theorem hasBx243 : hasB Tryz.prog 243 = Bool.true := by kernel_rfl
theorem hasBx244 : hasB Tryz.prog 244 = Bool.true := by kernel_rfl
theorem hasBx245 : hasB Tryz.prog 245 = Bool.true := by kernel_rfl
theorem tArrx31 : tArr Tryz.prog 31 = (Option.some (16, 1)) := by kernel_rfl
theorem tArrx223 : tArr Tryz.prog 223 = (Option.some (6, 1)) := by kernel_rfl
theorem tArrx237 : tArr Tryz.prog 237 = (Option.some (7, 1)) := by kernel_rfl
theorem tArrx317 : tArr Tryz.prog 317 = (Option.some (32, 1)) := by kernel_rfl
theorem tArrx333 : tArr Tryz.prog 333 = (Option.some (2, 1)) := by kernel_rfl
theorem tArrPartx114 : tArrPart Tryz.prog 114 = (Option.some (3, (1, Option.none))) := by kernel_rfl
theorem tArrPartx142 : tArrPart Tryz.prog 142 = (Option.some (2, (1, Option.none))) := by kernel_rfl
theorem tBoolx4 : tBool Tryz.prog 4 = Bool.true := by kernel_rfl
theorem tBuildFx31x0 : tBuildF Tryz.prog 31 0 = (Option.some (0, 1)) := by kernel_rfl
theorem tBuildFx31x1 : tBuildF Tryz.prog 31 1 = (Option.some (1, 1)) := by kernel_rfl
theorem tBuildFx31x2 : tBuildF Tryz.prog 31 2 = (Option.some (2, 1)) := by kernel_rfl
theorem tBuildFx31x3 : tBuildF Tryz.prog 31 3 = (Option.some (3, 1)) := by kernel_rfl
theorem tBuildFx33x0 : tBuildF Tryz.prog 33 0 = (Option.some (0, 1)) := by kernel_rfl
theorem tBuildFx33x1 : tBuildF Tryz.prog 33 1 = (Option.some (1, 16)) := by kernel_rfl
theorem tBuildFx35x0 : tBuildF Tryz.prog 35 0 = (Option.some (0, 17)) := by kernel_rfl
theorem tBuildFx35x1 : tBuildF Tryz.prog 35 1 = (Option.some (17, 1)) := by kernel_rfl
theorem tBuildFx37x0 : tBuildF Tryz.prog 37 0 = (Option.some (0, 18)) := by kernel_rfl
theorem tBuildFx37x1 : tBuildF Tryz.prog 37 1 = (Option.some (18, 1)) := by kernel_rfl
theorem tBuildFx39x0 : tBuildF Tryz.prog 39 0 = (Option.some (0, 17)) := by kernel_rfl
theorem tBuildFx39x1 : tBuildF Tryz.prog 39 1 = (Option.some (17, 1)) := by kernel_rfl
theorem tBuildFx39x6 : tBuildF Tryz.prog 39 6 = (Option.some (22, 1)) := by kernel_rfl
theorem tBuildFx90x0 : tBuildF Tryz.prog 90 0 = (Option.some (0, 1)) := by kernel_rfl
theorem tBuildFx90x1 : tBuildF Tryz.prog 90 1 = (Option.some (1, 1)) := by kernel_rfl
theorem tBuildFx99x0 : tBuildF Tryz.prog 99 0 = (Option.some (0, 1)) := by kernel_rfl
theorem tBuildFx104x0 : tBuildF Tryz.prog 104 0 = (Option.some (0, 1)) := by kernel_rfl
theorem tBuildFx104x1 : tBuildF Tryz.prog 104 1 = (Option.some (1, 1)) := by kernel_rfl
theorem tBuildFx104x2 : tBuildF Tryz.prog 104 2 = (Option.some (2, 1)) := by kernel_rfl
theorem tBuildFx104x3 : tBuildF Tryz.prog 104 3 = (Option.some (3, 1)) := by kernel_rfl
theorem tBuildFx106x0 : tBuildF Tryz.prog 106 0 = (Option.some (0, 1)) := by kernel_rfl
theorem tBuildFx106x1 : tBuildF Tryz.prog 106 1 = (Option.some (1, 1)) := by kernel_rfl
theorem tBuildFx106x2 : tBuildF Tryz.prog 106 2 = (Option.some (2, 4)) := by kernel_rfl
theorem tBuildFx114x0 : tBuildF Tryz.prog 114 0 = (Option.some (0, 1)) := by kernel_rfl
theorem tBuildFx114x1 : tBuildF Tryz.prog 114 1 = (Option.some (1, 1)) := by kernel_rfl
theorem tBuildFx114x2 : tBuildF Tryz.prog 114 2 = (Option.some (2, 1)) := by kernel_rfl
theorem tBuildFx136x0 : tBuildF Tryz.prog 136 0 = (Option.some (0, 1)) := by kernel_rfl
theorem tBuildFx136x1 : tBuildF Tryz.prog 136 1 = (Option.some (1, 1)) := by kernel_rfl
theorem tBuildFx136x2 : tBuildF Tryz.prog 136 2 = (Option.some (2, 1)) := by kernel_rfl
theorem tBuildFx136x3 : tBuildF Tryz.prog 136 3 = (Option.some (3, 1)) := by kernel_rfl
theorem tBuildFx140x0 : tBuildF Tryz.prog 140 0 = (Option.some (0, 1)) := by kernel_rfl
theorem tBuildFx140x1 : tBuildF Tryz.prog 140 1 = (Option.some (1, 4)) := by kernel_rfl
theorem tBuildFx140x3 : tBuildF Tryz.prog 140 3 = (Option.some (6, 1)) := by kernel_rfl
theorem tBuildFx142x0 : tBuildF Tryz.prog 142 0 = (Option.some (0, 1)) := by kernel_rfl
theorem tBuildFx142x1 : tBuildF Tryz.prog 142 1 = (Option.some (1, 1)) := by kernel_rfl
theorem tBuildFx144x0 : tBuildF Tryz.prog 144 0 = (Option.some (0, 1)) := by kernel_rfl
theorem tBuildFx144x1 : tBuildF Tryz.prog 144 1 = (Option.some (1, 1)) := by kernel_rfl
theorem tBuildFx144x2 : tBuildF Tryz.prog 144 2 = (Option.some (2, 1)) := by kernel_rfl
theorem tBuildFx150x0 : tBuildF Tryz.prog 150 0 = (Option.some (0, 1)) := by kernel_rfl
theorem tBuildFx152x0 : tBuildF Tryz.prog 152 0 = (Option.some (0, 1)) := by kernel_rfl
theorem tBuildFx152x1 : tBuildF Tryz.prog 152 1 = (Option.some (1, 1)) := by kernel_rfl
theorem tBuildFx165x0 : tBuildF Tryz.prog 165 0 = (Option.some (0, 1)) := by kernel_rfl
theorem tBuildFx167x0 : tBuildF Tryz.prog 167 0 = (Option.some (0, 2)) := by kernel_rfl
theorem tBuildFx173x0 : tBuildF Tryz.prog 173 0 = (Option.some (0, 1)) := by kernel_rfl
theorem tBuildFx173x1 : tBuildF Tryz.prog 173 1 = (Option.some (1, 1)) := by kernel_rfl
theorem tBuildFx173x2 : tBuildF Tryz.prog 173 2 = (Option.some (2, 1)) := by kernel_rfl
theorem tBuildFx190x0 : tBuildF Tryz.prog 190 0 = (Option.some (0, 1)) := by kernel_rfl
theorem tBuildFx228x0 : tBuildF Tryz.prog 228 0 = (Option.some (0, 1)) := by kernel_rfl
theorem tBuildFx228x1 : tBuildF Tryz.prog 228 1 = (Option.some (1, 1)) := by kernel_rfl
theorem tBuildFx228x2 : tBuildF Tryz.prog 228 2 = (Option.some (2, 1)) := by kernel_rfl
theorem tBuildFx264x0 : tBuildF Tryz.prog 264 0 = (Option.some (0, 1)) := by kernel_rfl
theorem tBuildOkx31 : tBuildOk Tryz.prog 31 = Bool.true := by kernel_rfl
theorem tBuildOkx33 : tBuildOk Tryz.prog 33 = Bool.true := by kernel_rfl
theorem tBuildOkx35 : tBuildOk Tryz.prog 35 = Bool.true := by kernel_rfl
theorem tBuildOkx37 : tBuildOk Tryz.prog 37 = Bool.true := by kernel_rfl
theorem tBuildOkx39 : tBuildOk Tryz.prog 39 = Bool.true := by kernel_rfl
theorem tBuildOkx90 : tBuildOk Tryz.prog 90 = Bool.true := by kernel_rfl
theorem tBuildOkx99 : tBuildOk Tryz.prog 99 = Bool.true := by kernel_rfl
theorem tBuildOkx104 : tBuildOk Tryz.prog 104 = Bool.true := by kernel_rfl
theorem tBuildOkx106 : tBuildOk Tryz.prog 106 = Bool.true := by kernel_rfl
theorem tBuildOkx114 : tBuildOk Tryz.prog 114 = Bool.true := by kernel_rfl
theorem tBuildOkx136 : tBuildOk Tryz.prog 136 = Bool.true := by kernel_rfl
theorem tBuildOkx140 : tBuildOk Tryz.prog 140 = Bool.true := by kernel_rfl
theorem tBuildOkx142 : tBuildOk Tryz.prog 142 = Bool.true := by kernel_rfl
theorem tBuildOkx144 : tBuildOk Tryz.prog 144 = Bool.true := by kernel_rfl
theorem tBuildOkx150 : tBuildOk Tryz.prog 150 = Bool.true := by kernel_rfl
theorem tBuildOkx152 : tBuildOk Tryz.prog 152 = Bool.true := by kernel_rfl
theorem tBuildOkx165 : tBuildOk Tryz.prog 165 = Bool.true := by kernel_rfl
theorem tBuildOkx167 : tBuildOk Tryz.prog 167 = Bool.true := by kernel_rfl
theorem tBuildOkx173 : tBuildOk Tryz.prog 173 = Bool.true := by kernel_rfl
theorem tBuildOkx190 : tBuildOk Tryz.prog 190 = Bool.true := by kernel_rfl
theorem tBuildOkx228 : tBuildOk Tryz.prog 228 = Bool.true := by kernel_rfl
theorem tBuildOkx264 : tBuildOk Tryz.prog 264 = Bool.true := by kernel_rfl
theorem tElemx22 : tElem Tryz.prog 22 = (Option.some 1) := by kernel_rfl
theorem tElemx23 : tElem Tryz.prog 23 = (Option.some 1) := by kernel_rfl
theorem tElemx44 : tElem Tryz.prog 44 = (Option.some 19) := by kernel_rfl
theorem tElemx47 : tElem Tryz.prog 47 = (Option.some 1) := by kernel_rfl
theorem tElemx87 : tElem Tryz.prog 87 = (Option.some 2) := by kernel_rfl
theorem tElemx96 : tElem Tryz.prog 96 = (Option.some 2) := by kernel_rfl
theorem tElemx100 : tElem Tryz.prog 100 = (Option.some 8) := by kernel_rfl
theorem tElemx137 : tElem Tryz.prog 137 = (Option.some 3) := by kernel_rfl
theorem tElemx159 : tElem Tryz.prog 159 = (Option.some 1) := by kernel_rfl
theorem tElemx196 : tElem Tryz.prog 196 = (Option.some 5) := by kernel_rfl
theorem tElemx215 : tElem Tryz.prog 215 = (Option.some 1) := by kernel_rfl
theorem tElemx277 : tElem Tryz.prog 277 = (Option.some 1) := by kernel_rfl
theorem tElemx281 : tElem Tryz.prog 281 = (Option.some 1) := by kernel_rfl
theorem tFieldx228x2 : tField Tryz.prog 228 2 = (Option.some (2, Option.none)) := by kernel_rfl
theorem tFieldAx33x0 : tFieldA Tryz.prog 33 0 = (Option.some 0) := by kernel_rfl
theorem tFieldAx33x1 : tFieldA Tryz.prog 33 1 = (Option.some 1) := by kernel_rfl
theorem tFieldAx35x0 : tFieldA Tryz.prog 35 0 = (Option.some 0) := by kernel_rfl
theorem tFieldAx35x1 : tFieldA Tryz.prog 35 1 = (Option.some 17) := by kernel_rfl
theorem tFieldAx37x0 : tFieldA Tryz.prog 37 0 = (Option.some 0) := by kernel_rfl
theorem tFieldAx37x1 : tFieldA Tryz.prog 37 1 = (Option.some 18) := by kernel_rfl
theorem tFieldAx39x0 : tFieldA Tryz.prog 39 0 = (Option.some 0) := by kernel_rfl
theorem tFieldAx39x1 : tFieldA Tryz.prog 39 1 = (Option.some 17) := by kernel_rfl
theorem tFieldAx39x2 : tFieldA Tryz.prog 39 2 = (Option.some 18) := by kernel_rfl
theorem tFieldAx39x3 : tFieldA Tryz.prog 39 3 = (Option.some 19) := by kernel_rfl
theorem tFieldAx39x4 : tFieldA Tryz.prog 39 4 = (Option.some 20) := by kernel_rfl
theorem tFieldAx39x5 : tFieldA Tryz.prog 39 5 = (Option.some 21) := by kernel_rfl
theorem tFieldAx39x6 : tFieldA Tryz.prog 39 6 = (Option.some 22) := by kernel_rfl
theorem tFieldAx90x0 : tFieldA Tryz.prog 90 0 = (Option.some 0) := by kernel_rfl
theorem tFieldAx90x1 : tFieldA Tryz.prog 90 1 = (Option.some 1) := by kernel_rfl
theorem tFieldAx99x0 : tFieldA Tryz.prog 99 0 = (Option.some 0) := by kernel_rfl
theorem tFieldAx104x0 : tFieldA Tryz.prog 104 0 = (Option.some 0) := by kernel_rfl
theorem tFieldAx104x1 : tFieldA Tryz.prog 104 1 = (Option.some 1) := by kernel_rfl
theorem tFieldAx104x2 : tFieldA Tryz.prog 104 2 = (Option.some 2) := by kernel_rfl
theorem tFieldAx104x3 : tFieldA Tryz.prog 104 3 = (Option.some 3) := by kernel_rfl
theorem tFieldAx106x0 : tFieldA Tryz.prog 106 0 = (Option.some 0) := by kernel_rfl
theorem tFieldAx106x1 : tFieldA Tryz.prog 106 1 = (Option.some 1) := by kernel_rfl
theorem tFieldAx106x2 : tFieldA Tryz.prog 106 2 = (Option.some 2) := by kernel_rfl
theorem tFieldAx106x3 : tFieldA Tryz.prog 106 3 = (Option.some 6) := by kernel_rfl
theorem tFieldAx106x4 : tFieldA Tryz.prog 106 4 = (Option.some 7) := by kernel_rfl
theorem tFieldAx136x0 : tFieldA Tryz.prog 136 0 = (Option.some 0) := by kernel_rfl
theorem tFieldAx136x1 : tFieldA Tryz.prog 136 1 = (Option.some 1) := by kernel_rfl
theorem tFieldAx136x2 : tFieldA Tryz.prog 136 2 = (Option.some 2) := by kernel_rfl
theorem tFieldAx136x3 : tFieldA Tryz.prog 136 3 = (Option.some 3) := by kernel_rfl
theorem tFieldAx140x0 : tFieldA Tryz.prog 140 0 = (Option.some 0) := by kernel_rfl
theorem tFieldAx140x1 : tFieldA Tryz.prog 140 1 = (Option.some 1) := by kernel_rfl
theorem tFieldAx140x2 : tFieldA Tryz.prog 140 2 = (Option.some 5) := by kernel_rfl
theorem tFieldAx140x3 : tFieldA Tryz.prog 140 3 = (Option.some 6) := by kernel_rfl
theorem tFieldAx140x4 : tFieldA Tryz.prog 140 4 = (Option.some 7) := by kernel_rfl
theorem tFieldAx140x5 : tFieldA Tryz.prog 140 5 = (Option.some 8) := by kernel_rfl
theorem tFieldAx140x6 : tFieldA Tryz.prog 140 6 = (Option.some 9) := by kernel_rfl
theorem tFieldAx144x0 : tFieldA Tryz.prog 144 0 = (Option.some 0) := by kernel_rfl
theorem tFieldAx144x1 : tFieldA Tryz.prog 144 1 = (Option.some 1) := by kernel_rfl
theorem tFieldAx144x2 : tFieldA Tryz.prog 144 2 = (Option.some 2) := by kernel_rfl
theorem tFieldAx150x0 : tFieldA Tryz.prog 150 0 = (Option.some 0) := by kernel_rfl
theorem tFieldAx150x1 : tFieldA Tryz.prog 150 1 = (Option.some 1) := by kernel_rfl
theorem tFieldAx150x2 : tFieldA Tryz.prog 150 2 = (Option.some 2) := by kernel_rfl
theorem tFieldAx150x3 : tFieldA Tryz.prog 150 3 = (Option.some 3) := by kernel_rfl
theorem tFieldAx150x4 : tFieldA Tryz.prog 150 4 = (Option.some 4) := by kernel_rfl
theorem tFieldAx150x5 : tFieldA Tryz.prog 150 5 = (Option.some 5) := by kernel_rfl
theorem tFieldAx150x6 : tFieldA Tryz.prog 150 6 = (Option.some 6) := by kernel_rfl
theorem tFieldAx152x0 : tFieldA Tryz.prog 152 0 = (Option.some 0) := by kernel_rfl
theorem tFieldAx152x1 : tFieldA Tryz.prog 152 1 = (Option.some 1) := by kernel_rfl
theorem tFieldAx165x0 : tFieldA Tryz.prog 165 0 = (Option.some 0) := by kernel_rfl
theorem tFieldAx165x1 : tFieldA Tryz.prog 165 1 = (Option.some 1) := by kernel_rfl
theorem tFieldAx167x0 : tFieldA Tryz.prog 167 0 = (Option.some 0) := by kernel_rfl
theorem tFieldAx173x0 : tFieldA Tryz.prog 173 0 = (Option.some 0) := by kernel_rfl
theorem tFieldAx173x1 : tFieldA Tryz.prog 173 1 = (Option.some 1) := by kernel_rfl
theorem tFieldAx173x2 : tFieldA Tryz.prog 173 2 = (Option.some 2) := by kernel_rfl
theorem tFieldAx173x3 : tFieldA Tryz.prog 173 3 = (Option.some 3) := by kernel_rfl
theorem tFieldAx190x0 : tFieldA Tryz.prog 190 0 = (Option.some 0) := by kernel_rfl
theorem tFieldAx190x1 : tFieldA Tryz.prog 190 1 = (Option.some 1) := by kernel_rfl
theorem tFieldAx190x2 : tFieldA Tryz.prog 190 2 = (Option.some 2) := by kernel_rfl
theorem tFieldAx228x0 : tFieldA Tryz.prog 228 0 = (Option.some 0) := by kernel_rfl
theorem tFieldAx228x1 : tFieldA Tryz.prog 228 1 = (Option.some 1) := by kernel_rfl
theorem tFieldAx228x2 : tFieldA Tryz.prog 228 2 = (Option.some 2) := by kernel_rfl
theorem tFieldAx264x0 : tFieldA Tryz.prog 264 0 = (Option.some 0) := by kernel_rfl
theorem tFieldAx264x1 : tFieldA Tryz.prog 264 1 = (Option.some 1) := by kernel_rfl
theorem tIntx3x5 : tInt Tryz.prog 3 5 = (Option.some IntKind.u8) := by kernel_rfl
theorem tIntx3x66 : tInt Tryz.prog 3 66 = (Option.some IntKind.u64) := by kernel_rfl
theorem tIntx3x68 : tInt Tryz.prog 3 68 = (Option.some IntKind.u64) := by kernel_rfl
theorem tIntx3x85 : tInt Tryz.prog 3 85 = (Option.some IntKind.u32) := by kernel_rfl
theorem tIntx3x296 : tInt Tryz.prog 3 296 = (Option.some IntKind.u64) := by kernel_rfl
theorem tIntx5x3 : tInt Tryz.prog 5 3 = (Option.some IntKind.i64) := by kernel_rfl
theorem tIntx5x68 : tInt Tryz.prog 5 68 = (Option.some IntKind.u64) := by kernel_rfl
theorem tIntx5x85 : tInt Tryz.prog 5 85 = (Option.some IntKind.u32) := by kernel_rfl
theorem tIntx66x3 : tInt Tryz.prog 66 3 = (Option.some IntKind.i64) := by kernel_rfl
theorem tIntx66x85 : tInt Tryz.prog 66 85 = (Option.some IntKind.u32) := by kernel_rfl
theorem tIntx68x5 : tInt Tryz.prog 68 5 = (Option.some IntKind.u8) := by kernel_rfl
theorem tIntx68x85 : tInt Tryz.prog 68 85 = (Option.some IntKind.u32) := by kernel_rfl
theorem tIntx85x3 : tInt Tryz.prog 85 3 = (Option.some IntKind.i64) := by kernel_rfl
theorem tIntx85x5 : tInt Tryz.prog 85 5 = (Option.some IntKind.u8) := by kernel_rfl
theorem tIntx85x68 : tInt Tryz.prog 85 68 = (Option.some IntKind.u64) := by kernel_rfl
theorem tLenx22 : tLen Tryz.prog 22 = (Option.some Bool.false) := by kernel_rfl
theorem tLenx23 : tLen Tryz.prog 23 = (Option.some Bool.false) := by kernel_rfl
theorem tLenx44 : tLen Tryz.prog 44 = (Option.some Bool.false) := by kernel_rfl
theorem tLenx47 : tLen Tryz.prog 47 = (Option.some Bool.false) := by kernel_rfl
theorem tLenx87 : tLen Tryz.prog 87 = (Option.some Bool.false) := by kernel_rfl
theorem tLenx96 : tLen Tryz.prog 96 = (Option.some Bool.false) := by kernel_rfl
theorem tLenx100 : tLen Tryz.prog 100 = (Option.some Bool.false) := by kernel_rfl
theorem tLenx137 : tLen Tryz.prog 137 = (Option.some Bool.false) := by kernel_rfl
theorem tLenx159 : tLen Tryz.prog 159 = (Option.some Bool.false) := by kernel_rfl
theorem tLenx196 : tLen Tryz.prog 196 = (Option.some Bool.false) := by kernel_rfl
theorem tLenx215 : tLen Tryz.prog 215 = (Option.some Bool.false) := by kernel_rfl
theorem tLenx277 : tLen Tryz.prog 277 = (Option.some Bool.false) := by kernel_rfl
theorem tLenx281 : tLen Tryz.prog 281 = (Option.some Bool.false) := by kernel_rfl
theorem tPartx3 : tPart Tryz.prog 3 = (Option.some Option.none) := by kernel_rfl
theorem tPartx4 : tPart Tryz.prog 4 = (Option.some Option.none) := by kernel_rfl
theorem tPartx5 : tPart Tryz.prog 5 = (Option.some Option.none) := by kernel_rfl
theorem tPartx22 : tPart Tryz.prog 22 = (Option.some Option.none) := by kernel_rfl
theorem tPartx23 : tPart Tryz.prog 23 = (Option.some Option.none) := by kernel_rfl
theorem tPartx31 : tPart Tryz.prog 31 = (Option.some (Option.some 16)) := by kernel_rfl
theorem tPartx33 : tPart Tryz.prog 33 = (Option.some (Option.some 17)) := by kernel_rfl
theorem tPartx35 : tPart Tryz.prog 35 = (Option.some (Option.some 18)) := by kernel_rfl
theorem tPartx37 : tPart Tryz.prog 37 = (Option.some (Option.some 19)) := by kernel_rfl
theorem tPartx39 : tPart Tryz.prog 39 = (Option.some (Option.some 23)) := by kernel_rfl
theorem tPartx40 : tPart Tryz.prog 40 = (Option.some Option.none) := by kernel_rfl
theorem tPartx41 : tPart Tryz.prog 41 = (Option.some Option.none) := by kernel_rfl
theorem tPartx44 : tPart Tryz.prog 44 = (Option.some Option.none) := by kernel_rfl
theorem tPartx47 : tPart Tryz.prog 47 = (Option.some Option.none) := by kernel_rfl
theorem tPartx68 : tPart Tryz.prog 68 = (Option.some Option.none) := by kernel_rfl
theorem tPartx70 : tPart Tryz.prog 70 = (Option.some Option.none) := by kernel_rfl
theorem tPartx85 : tPart Tryz.prog 85 = (Option.some Option.none) := by kernel_rfl
theorem tPartx87 : tPart Tryz.prog 87 = (Option.some Option.none) := by kernel_rfl
theorem tPartx90 : tPart Tryz.prog 90 = (Option.some (Option.some 2)) := by kernel_rfl
theorem tPartx96 : tPart Tryz.prog 96 = (Option.some Option.none) := by kernel_rfl
theorem tPartx100 : tPart Tryz.prog 100 = (Option.some Option.none) := by kernel_rfl
theorem tPartx104 : tPart Tryz.prog 104 = (Option.some (Option.some 4)) := by kernel_rfl
theorem tPartx106 : tPart Tryz.prog 106 = (Option.some (Option.some 8)) := by kernel_rfl
theorem tPartx136 : tPart Tryz.prog 136 = (Option.some (Option.some 4)) := by kernel_rfl
theorem tPartx137 : tPart Tryz.prog 137 = (Option.some Option.none) := by kernel_rfl
theorem tPartx138 : tPart Tryz.prog 138 = (Option.some Option.none) := by kernel_rfl
theorem tPartx144 : tPart Tryz.prog 144 = (Option.some (Option.some 3)) := by kernel_rfl
theorem tPartx152 : tPart Tryz.prog 152 = (Option.some (Option.some 2)) := by kernel_rfl
theorem tPartx159 : tPart Tryz.prog 159 = (Option.some Option.none) := by kernel_rfl
theorem tPartx171 : tPart Tryz.prog 171 = (Option.some Option.none) := by kernel_rfl
theorem tPartx188 : tPart Tryz.prog 188 = (Option.some Option.none) := by kernel_rfl
theorem tPartx196 : tPart Tryz.prog 196 = (Option.some Option.none) := by kernel_rfl
theorem tPartx228 : tPart Tryz.prog 228 = (Option.some (Option.some 3)) := by kernel_rfl
theorem tPartx239 : tPart Tryz.prog 239 = (Option.some Option.none) := by kernel_rfl
theorem tPartx264 : tPart Tryz.prog 264 = (Option.some (Option.some 5)) := by kernel_rfl
theorem tPartx284 : tPart Tryz.prog 284 = (Option.some Option.none) := by kernel_rfl
theorem tPartx296 : tPart Tryz.prog 296 = (Option.some Option.none) := by kernel_rfl
theorem tPtrx40 : tPtr Tryz.prog 40 = Bool.true := by kernel_rfl
theorem tPtrx59 : tPtr Tryz.prog 59 = Bool.true := by kernel_rfl
theorem tPtrx69 : tPtr Tryz.prog 69 = Bool.true := by kernel_rfl
theorem tPtrx91 : tPtr Tryz.prog 91 = Bool.true := by kernel_rfl
theorem tRowx22 : tRow Tryz.prog 22 = (Option.some (1, (4, #[(Value.int IntKind.u32 0)]))) := by kernel_rfl
theorem tRowx23 : tRow Tryz.prog 23 = (Option.some (1, (1, #[(Value.int IntKind.u8 0)]))) := by kernel_rfl
theorem tRowx44 : tRow Tryz.prog 44 = (Option.some (19, (40, #[(Value.int IntKind.i64 0), (Value.int IntKind.u8 0), (Value.int IntKind.u8 0), (Value.int IntKind.u8 0), (Value.int IntKind.u8 0), (Value.int IntKind.u8 0), (Value.int IntKind.u8 0), (Value.int IntKind.u8 0), (Value.int IntKind.u8 0), (Value.int IntKind.u8 0), (Value.int IntKind.u8 0), (Value.int IntKind.u8 0), (Value.int IntKind.u8 0), (Value.int IntKind.u8 0), (Value.int IntKind.u8 0), (Value.int IntKind.u8 0), (Value.int IntKind.u8 0), (Value.int IntKind.i64 0), (Value.int IntKind.i64 0)]))) := by kernel_rfl
theorem tRowx47 : tRow Tryz.prog 47 = (Option.some (1, (8, #[(Value.int IntKind.i64 0)]))) := by kernel_rfl
theorem tRowx87 : tRow Tryz.prog 87 = (Option.some (2, (16, #[(Value.int IntKind.i64 0), (Value.int IntKind.i64 0)]))) := by kernel_rfl
theorem tRowx96 : tRow Tryz.prog 96 = (Option.some (2, (16, #[(Value.int IntKind.i64 0), (Value.int IntKind.i64 0)]))) := by kernel_rfl
theorem tRowx100 : tRow Tryz.prog 100 = (Option.some (8, (96, #[(Value.int IntKind.i64 0), (Value.slice Option.none 0 0), (Value.int IntKind.u32 0), (Value.int IntKind.u32 0), (Value.int IntKind.u32 0), (Value.int IntKind.u32 0), (Value.slice Option.none 0 0), (Value.slice Option.none 0 0)]))) := by kernel_rfl
theorem tRowx137 : tRow Tryz.prog 137 = (Option.some (3, (24, #[(Value.int IntKind.i64 0), (Value.int IntKind.i64 0), (Value.int IntKind.i64 0)]))) := by kernel_rfl
theorem tRowx159 : tRow Tryz.prog 159 = (Option.some (1, (4, #[(Value.int IntKind.u32 0)]))) := by kernel_rfl
theorem tRowx196 : tRow Tryz.prog 196 = (Option.some (5, (24, #[(Value.int IntKind.i64 0), (Value.int IntKind.u32 0), (Value.int IntKind.u32 0), (Value.int IntKind.u32 0), (Value.int IntKind.u32 0)]))) := by kernel_rfl
theorem tRowx215 : tRow Tryz.prog 215 = (Option.some (1, (24, #[(Value.slice Option.none 0 0)]))) := by kernel_rfl
theorem tRowx277 : tRow Tryz.prog 277 = (Option.some (1, (24, #[(Value.slice Option.none 0 0)]))) := by kernel_rfl
theorem tRowx281 : tRow Tryz.prog 281 = (Option.some (1, (24, #[(Value.slice Option.none 0 0)]))) := by kernel_rfl
theorem tSizex3 : tSize Tryz.prog 3 = (Option.some 1) := by kernel_rfl
theorem tSizex4 : tSize Tryz.prog 4 = (Option.some 1) := by kernel_rfl
theorem tSizex5 : tSize Tryz.prog 5 = (Option.some 1) := by kernel_rfl
theorem tSizex22 : tSize Tryz.prog 22 = (Option.some 1) := by kernel_rfl
theorem tSizex23 : tSize Tryz.prog 23 = (Option.some 1) := by kernel_rfl
theorem tSizex31 : tSize Tryz.prog 31 = (Option.some 16) := by kernel_rfl
theorem tSizex35 : tSize Tryz.prog 35 = (Option.some 18) := by kernel_rfl
theorem tSizex37 : tSize Tryz.prog 37 = (Option.some 19) := by kernel_rfl
theorem tSizex39 : tSize Tryz.prog 39 = (Option.some 23) := by kernel_rfl
theorem tSizex41 : tSize Tryz.prog 41 = (Option.some 1) := by kernel_rfl
theorem tSizex44 : tSize Tryz.prog 44 = (Option.some 1) := by kernel_rfl
theorem tSizex47 : tSize Tryz.prog 47 = (Option.some 1) := by kernel_rfl
theorem tSizex68 : tSize Tryz.prog 68 = (Option.some 1) := by kernel_rfl
theorem tSizex70 : tSize Tryz.prog 70 = (Option.some 1) := by kernel_rfl
theorem tSizex85 : tSize Tryz.prog 85 = (Option.some 1) := by kernel_rfl
theorem tSizex87 : tSize Tryz.prog 87 = (Option.some 1) := by kernel_rfl
theorem tSizex90 : tSize Tryz.prog 90 = (Option.some 2) := by kernel_rfl
theorem tSizex96 : tSize Tryz.prog 96 = (Option.some 1) := by kernel_rfl
theorem tSizex100 : tSize Tryz.prog 100 = (Option.some 1) := by kernel_rfl
theorem tSizex104 : tSize Tryz.prog 104 = (Option.some 4) := by kernel_rfl
theorem tSizex106 : tSize Tryz.prog 106 = (Option.some 8) := by kernel_rfl
theorem tSizex136 : tSize Tryz.prog 136 = (Option.some 4) := by kernel_rfl
theorem tSizex137 : tSize Tryz.prog 137 = (Option.some 1) := by kernel_rfl
theorem tSizex138 : tSize Tryz.prog 138 = (Option.some 1) := by kernel_rfl
theorem tSizex144 : tSize Tryz.prog 144 = (Option.some 3) := by kernel_rfl
theorem tSizex152 : tSize Tryz.prog 152 = (Option.some 2) := by kernel_rfl
theorem tSizex159 : tSize Tryz.prog 159 = (Option.some 1) := by kernel_rfl
theorem tSizex188 : tSize Tryz.prog 188 = (Option.some 1) := by kernel_rfl
theorem tSizex228 : tSize Tryz.prog 228 = (Option.some 3) := by kernel_rfl
theorem tSizex264 : tSize Tryz.prog 264 = (Option.some 5) := by kernel_rfl
theorem tSizex284 : tSize Tryz.prog 284 = (Option.some 1) := by kernel_rfl
theorem tSizex296 : tSize Tryz.prog 296 = (Option.some 1) := by kernel_rfl
theorem tSlix22 : tSli Tryz.prog 22 = Bool.true := by kernel_rfl
theorem tSlix23 : tSli Tryz.prog 23 = Bool.true := by kernel_rfl
theorem tSlix47 : tSli Tryz.prog 47 = Bool.true := by kernel_rfl
theorem tSlix159 : tSli Tryz.prog 159 = Bool.true := by kernel_rfl
theorem tZerox3 : tZero Tryz.prog 3 = (Option.some #[(Value.int IntKind.i64 0)]) := by kernel_rfl
theorem tZerox4 : tZero Tryz.prog 4 = (Option.some #[(Value.bool Bool.false)]) := by kernel_rfl
theorem tZerox31 : tZero Tryz.prog 31 = (Option.some #[(Value.int IntKind.u8 0), (Value.int IntKind.u8 0), (Value.int IntKind.u8 0), (Value.int IntKind.u8 0), (Value.int IntKind.u8 0), (Value.int IntKind.u8 0), (Value.int IntKind.u8 0), (Value.int IntKind.u8 0), (Value.int IntKind.u8 0), (Value.int IntKind.u8 0), (Value.int IntKind.u8 0), (Value.int IntKind.u8 0), (Value.int IntKind.u8 0), (Value.int IntKind.u8 0), (Value.int IntKind.u8 0), (Value.int IntKind.u8 0)]) := by kernel_rfl
theorem tZerox33 : tZero Tryz.prog 33 = (Option.some #[(Value.int IntKind.i64 0), (Value.int IntKind.u8 0), (Value.int IntKind.u8 0), (Value.int IntKind.u8 0), (Value.int IntKind.u8 0), (Value.int IntKind.u8 0), (Value.int IntKind.u8 0), (Value.int IntKind.u8 0), (Value.int IntKind.u8 0), (Value.int IntKind.u8 0), (Value.int IntKind.u8 0), (Value.int IntKind.u8 0), (Value.int IntKind.u8 0), (Value.int IntKind.u8 0), (Value.int IntKind.u8 0), (Value.int IntKind.u8 0), (Value.int IntKind.u8 0)]) := by kernel_rfl
theorem tZerox35 : tZero Tryz.prog 35 = (Option.some #[(Value.int IntKind.i64 0), (Value.int IntKind.u8 0), (Value.int IntKind.u8 0), (Value.int IntKind.u8 0), (Value.int IntKind.u8 0), (Value.int IntKind.u8 0), (Value.int IntKind.u8 0), (Value.int IntKind.u8 0), (Value.int IntKind.u8 0), (Value.int IntKind.u8 0), (Value.int IntKind.u8 0), (Value.int IntKind.u8 0), (Value.int IntKind.u8 0), (Value.int IntKind.u8 0), (Value.int IntKind.u8 0), (Value.int IntKind.u8 0), (Value.int IntKind.u8 0), (Value.int IntKind.i64 0)]) := by kernel_rfl
theorem tZerox37 : tZero Tryz.prog 37 = (Option.some #[(Value.int IntKind.i64 0), (Value.int IntKind.u8 0), (Value.int IntKind.u8 0), (Value.int IntKind.u8 0), (Value.int IntKind.u8 0), (Value.int IntKind.u8 0), (Value.int IntKind.u8 0), (Value.int IntKind.u8 0), (Value.int IntKind.u8 0), (Value.int IntKind.u8 0), (Value.int IntKind.u8 0), (Value.int IntKind.u8 0), (Value.int IntKind.u8 0), (Value.int IntKind.u8 0), (Value.int IntKind.u8 0), (Value.int IntKind.u8 0), (Value.int IntKind.u8 0), (Value.int IntKind.i64 0), (Value.int IntKind.i64 0)]) := by kernel_rfl
theorem tZerox39 : tZero Tryz.prog 39 = (Option.some #[(Value.int IntKind.i64 0), (Value.int IntKind.u8 0), (Value.int IntKind.u8 0), (Value.int IntKind.u8 0), (Value.int IntKind.u8 0), (Value.int IntKind.u8 0), (Value.int IntKind.u8 0), (Value.int IntKind.u8 0), (Value.int IntKind.u8 0), (Value.int IntKind.u8 0), (Value.int IntKind.u8 0), (Value.int IntKind.u8 0), (Value.int IntKind.u8 0), (Value.int IntKind.u8 0), (Value.int IntKind.u8 0), (Value.int IntKind.u8 0), (Value.int IntKind.u8 0), (Value.int IntKind.i64 0), (Value.int IntKind.i64 0), (Value.int IntKind.i64 0), (Value.int IntKind.i64 0), (Value.bool Bool.false), (Value.bool Bool.false)]) := by kernel_rfl
theorem tZerox41 : tZero Tryz.prog 41 = (Option.some #[(Value.int IntKind.i64 0)]) := by kernel_rfl
theorem tZerox47 : tZero Tryz.prog 47 = (Option.some #[(Value.slice Option.none 0 0)]) := by kernel_rfl
theorem tZerox68 : tZero Tryz.prog 68 = (Option.some #[(Value.int IntKind.u64 0)]) := by kernel_rfl
theorem tZerox87 : tZero Tryz.prog 87 = (Option.some #[(Value.slice Option.none 0 0)]) := by kernel_rfl
theorem tZerox90 : tZero Tryz.prog 90 = (Option.some #[(Value.int IntKind.i64 0), (Value.int IntKind.i64 0)]) := by kernel_rfl
theorem tZerox96 : tZero Tryz.prog 96 = (Option.some #[(Value.slice Option.none 0 0)]) := by kernel_rfl
theorem tZerox99 : tZero Tryz.prog 99 = (Option.some #[(Value.slice Option.none 0 0)]) := by kernel_rfl
theorem tZerox104 : tZero Tryz.prog 104 = (Option.some #[(Value.int IntKind.u32 0), (Value.int IntKind.u32 0), (Value.int IntKind.u32 0), (Value.int IntKind.u32 0)]) := by kernel_rfl
theorem tZerox106 : tZero Tryz.prog 106 = (Option.some #[(Value.int IntKind.i64 0), (Value.slice Option.none 0 0), (Value.int IntKind.u32 0), (Value.int IntKind.u32 0), (Value.int IntKind.u32 0), (Value.int IntKind.u32 0), (Value.slice Option.none 0 0), (Value.slice Option.none 0 0)]) := by kernel_rfl
theorem tZerox114 : tZero Tryz.prog 114 = (Option.some #[(Value.int IntKind.i64 0), (Value.int IntKind.i64 0), (Value.int IntKind.i64 0)]) := by kernel_rfl
theorem tZerox136 : tZero Tryz.prog 136 = (Option.some #[(Value.int IntKind.u64 0), (Value.int IntKind.u64 0), (Value.int IntKind.i64 0), (Value.int IntKind.i64 0)]) := by kernel_rfl
theorem tZerox138 : tZero Tryz.prog 138 = (Option.some #[(Value.map Option.none)]) := by kernel_rfl
theorem tZerox140 : tZero Tryz.prog 140 = (Option.some #[(Value.pointer Option.none), (Value.int IntKind.u64 0), (Value.int IntKind.u64 0), (Value.int IntKind.i64 0), (Value.int IntKind.i64 0), (Value.slice Option.none 0 0), (Value.map Option.none), Value.nilFunc, (Value.bool Bool.false), (Value.bool Bool.false)]) := by kernel_rfl
theorem tZerox142 : tZero Tryz.prog 142 = (Option.some #[(Value.int IntKind.i64 0), (Value.int IntKind.i64 0)]) := by kernel_rfl
theorem tZerox144 : tZero Tryz.prog 144 = (Option.some #[(Value.int IntKind.i64 0), (Value.int IntKind.i64 0), (Value.int IntKind.i64 0)]) := by kernel_rfl
theorem tZerox150 : tZero Tryz.prog 150 = (Option.some #[(Value.pointer Option.none), (Value.bool Bool.false), (Value.int IntKind.i64 0), (Value.int IntKind.i64 0), (Value.map Option.none), (Value.slice Option.none 0 0), (Value.slice Option.none 0 0)]) := by kernel_rfl
theorem tZerox152 : tZero Tryz.prog 152 = (Option.some #[(Value.int IntKind.i64 0), (Value.int IntKind.i64 0)]) := by kernel_rfl
theorem tZerox159 : tZero Tryz.prog 159 = (Option.some #[(Value.slice Option.none 0 0)]) := by kernel_rfl
theorem tZerox165 : tZero Tryz.prog 165 = (Option.some #[(Value.slice Option.none 0 0), (Value.int IntKind.i64 0)]) := by kernel_rfl
theorem tZerox167 : tZero Tryz.prog 167 = (Option.some #[(Value.slice Option.none 0 0), (Value.int IntKind.i64 0)]) := by kernel_rfl
theorem tZerox173 : tZero Tryz.prog 173 = (Option.some #[(Value.pointer Option.none), (Value.int IntKind.i64 0), (Value.map Option.none), (Value.bool Bool.false)]) := by kernel_rfl
theorem tZerox188 : tZero Tryz.prog 188 = (Option.some #[(Value.pointer Option.none)]) := by kernel_rfl
theorem tZerox190 : tZero Tryz.prog 190 = (Option.some #[(Value.pointer Option.none), (Value.slice Option.none 0 0), (Value.slice Option.none 0 0)]) := by kernel_rfl
theorem tZerox223 : tZero Tryz.prog 223 = (Option.some #[(Value.int IntKind.i64 0), (Value.int IntKind.i64 0), (Value.int IntKind.i64 0), (Value.int IntKind.i64 0), (Value.int IntKind.i64 0), (Value.int IntKind.i64 0)]) := by kernel_rfl
theorem tZerox228 : tZero Tryz.prog 228 = (Option.some #[(Value.int IntKind.i64 0), (Value.int IntKind.i64 0), (Value.bool Bool.false)]) := by kernel_rfl
theorem tZerox264 : tZero Tryz.prog 264 = (Option.some #[(Value.int IntKind.i64 0), (Value.int IntKind.u32 0), (Value.int IntKind.u32 0), (Value.int IntKind.u32 0), (Value.int IntKind.u32 0)]) := by kernel_rfl
theorem tZerox284 : tZero Tryz.prog 284 = (Option.some #[(Value.map Option.none)]) := by kernel_rfl
theorem tZerox296 : tZero Tryz.prog 296 = (Option.some #[(Value.int IntKind.u64 0)]) := by kernel_rfl
end Go.Abs.D1
