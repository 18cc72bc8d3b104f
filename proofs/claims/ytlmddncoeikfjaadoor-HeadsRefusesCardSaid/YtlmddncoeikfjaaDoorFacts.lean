/- Facts on single types and functions of the seat, printed by a program of mine. -/
import Derived.Test.YtlmddncoeikfjaaDoorProg
import Derived.Test.YtlmddncoeikfjaaDoorSpG
namespace Go.Proofs.YtlmddncoeikfjaaDoor
open Go.RowKit

theorem r_0 : (Tryd.prog.underlying 0).map TypeDesc.isRow = some false := by kernel_rfl
theorem sz_0 : (Tryd.prog.info? 0).map (·.size) = some 1 := by kernel_rfl
theorem r_1 : (Tryd.prog.underlying 1).map TypeDesc.isRow = some false := by kernel_rfl
theorem sz_1 : (Tryd.prog.info? 1).map (·.size) = some 1 := by kernel_rfl
theorem i_1 : (Tryd.prog.info? 1).map (fun i => (i.zero, i.size, i.bytes)) = some (some .nilFunc, 1, 8) := by kernel_rfl
theorem r_2 : (Tryd.prog.underlying 2).map TypeDesc.isRow = some false := by kernel_rfl
theorem sz_2 : (Tryd.prog.info? 2).map (·.size) = some 1 := by kernel_rfl
theorem u_2 : Tryd.prog.underlying 2 = some (.int .i64) := by kernel_rfl
theorem i_2 : (Tryd.prog.info? 2).map (fun i => (i.zero, i.size, i.bytes)) = some (some (.int .i64 0), 1, 8) := by kernel_rfl
theorem r_3 : (Tryd.prog.underlying 3).map TypeDesc.isRow = some false := by kernel_rfl
theorem sz_3 : (Tryd.prog.info? 3).map (·.size) = some 1 := by kernel_rfl
theorem u_3 : Tryd.prog.underlying 3 = some (.int .i64) := by kernel_rfl
theorem i_3 : (Tryd.prog.info? 3).map (fun i => (i.zero, i.size, i.bytes)) = some (some (.int .i64 0), 1, 8) := by kernel_rfl
theorem r_4 : (Tryd.prog.underlying 4).map TypeDesc.isRow = some false := by kernel_rfl
theorem sz_4 : (Tryd.prog.info? 4).map (·.size) = some 1 := by kernel_rfl
theorem i_4 : (Tryd.prog.info? 4).map (fun i => (i.zero, i.size, i.bytes)) = some (some (.bool false), 1, 1) := by kernel_rfl
theorem r_5 : (Tryd.prog.underlying 5).map TypeDesc.isRow = some false := by kernel_rfl
theorem sz_5 : (Tryd.prog.info? 5).map (·.size) = some 1 := by kernel_rfl
theorem u_5 : Tryd.prog.underlying 5 = some (.int .u8) := by kernel_rfl
theorem i_5 : (Tryd.prog.info? 5).map (fun i => (i.zero, i.size, i.bytes)) = some (some (.int .u8 0), 1, 1) := by kernel_rfl
theorem r_6 : (Tryd.prog.underlying 6).map TypeDesc.isRow = some false := by kernel_rfl
theorem sz_6 : (Tryd.prog.info? 6).map (·.size) = some 1 := by kernel_rfl
theorem u_6 : Tryd.prog.underlying 6 = some (.int .u8) := by kernel_rfl
theorem i_6 : (Tryd.prog.info? 6).map (fun i => (i.zero, i.size, i.bytes)) = some (some (.int .u8 0), 1, 1) := by kernel_rfl
theorem r_7 : (Tryd.prog.underlying 7).map TypeDesc.isRow = some true := by kernel_rfl
theorem sz_7 : (Tryd.prog.info? 7).map (·.size) = some 4 := by kernel_rfl
theorem i_7 : (Tryd.prog.info? 7).map (fun i => (i.zero, i.size, i.bytes)) = some (some (.agg #[(.int .i64 0), (.int .i64 0), (.bool false), (.int .u8 0)]), 4, 24) := by kernel_rfl
theorem r_22 : (Tryd.prog.underlying 22).map TypeDesc.isRow = some true := by kernel_rfl
theorem sz_22 : (Tryd.prog.info? 22).map (·.size) = some 8 := by kernel_rfl
theorem i_22 : (Tryd.prog.info? 22).map (fun i => (i.zero, i.size, i.bytes)) = some (some (.agg #[(.int .i64 0), (.int .i64 0), (.int .i64 0), (.int .i64 0), (.int .i64 0), (.int .i64 0), (.int .i64 0), (.int .i64 0)]), 8, 64) := by kernel_rfl
theorem r_23 : (Tryd.prog.underlying 23).map TypeDesc.isRow = some true := by kernel_rfl
theorem sz_23 : (Tryd.prog.info? 23).map (·.size) = some 8 := by kernel_rfl
theorem i_23 : (Tryd.prog.info? 23).map (fun i => (i.zero, i.size, i.bytes)) = some (some (.agg #[(.int .i64 0), (.int .i64 0), (.int .i64 0), (.int .i64 0), (.int .i64 0), (.int .i64 0), (.int .i64 0), (.int .i64 0)]), 8, 64) := by kernel_rfl
theorem r_24 : (Tryd.prog.underlying 24).map TypeDesc.isRow = some false := by kernel_rfl
theorem sz_24 : (Tryd.prog.info? 24).map (·.size) = some 1 := by kernel_rfl
theorem u_24 : Tryd.prog.underlying 24 = some (.slice 63) := by kernel_rfl
theorem i_24 : (Tryd.prog.info? 24).map (fun i => (i.zero, i.size, i.bytes)) = some (some (.slice none 0 0), 1, 24) := by kernel_rfl
theorem r_25 : (Tryd.prog.underlying 25).map TypeDesc.isRow = some true := by kernel_rfl
theorem sz_25 : (Tryd.prog.info? 25).map (·.size) = some 3 := by kernel_rfl
theorem i_25 : (Tryd.prog.info? 25).map (fun i => (i.zero, i.size, i.bytes)) = some (some (.agg #[(.int .i64 0), (.int .i64 0), (.slice none 0 0)]), 3, 40) := by kernel_rfl
theorem r_26 : (Tryd.prog.underlying 26).map TypeDesc.isRow = some true := by kernel_rfl
theorem sz_26 : (Tryd.prog.info? 26).map (·.size) = some 3 := by kernel_rfl
theorem i_26 : (Tryd.prog.info? 26).map (fun i => (i.zero, i.size, i.bytes)) = some (some (.agg #[(.int .i64 0), (.int .i64 0), (.slice none 0 0)]), 3, 40) := by kernel_rfl
theorem r_27 : (Tryd.prog.underlying 27).map TypeDesc.isRow = some false := by kernel_rfl
theorem sz_27 : (Tryd.prog.info? 27).map (·.size) = some 1 := by kernel_rfl
theorem u_27 : Tryd.prog.underlying 27 = some (.slice 117) := by kernel_rfl
theorem i_27 : (Tryd.prog.info? 27).map (fun i => (i.zero, i.size, i.bytes)) = some (some (.slice none 0 0), 1, 24) := by kernel_rfl
theorem r_28 : (Tryd.prog.underlying 28).map TypeDesc.isRow = some false := by kernel_rfl
theorem sz_28 : (Tryd.prog.info? 28).map (·.size) = some 1 := by kernel_rfl
theorem u_28 : Tryd.prog.underlying 28 = some (.slice 108) := by kernel_rfl
theorem i_28 : (Tryd.prog.info? 28).map (fun i => (i.zero, i.size, i.bytes)) = some (some (.slice none 0 0), 1, 24) := by kernel_rfl
theorem r_29 : (Tryd.prog.underlying 29).map TypeDesc.isRow = some false := by kernel_rfl
theorem sz_29 : (Tryd.prog.info? 29).map (·.size) = some 1 := by kernel_rfl
theorem u_29 : Tryd.prog.underlying 29 = some (.slice 26) := by kernel_rfl
theorem i_29 : (Tryd.prog.info? 29).map (fun i => (i.zero, i.size, i.bytes)) = some (some (.slice none 0 0), 1, 24) := by kernel_rfl
theorem r_30 : (Tryd.prog.underlying 30).map TypeDesc.isRow = some true := by kernel_rfl
theorem sz_30 : (Tryd.prog.info? 30).map (·.size) = some 18 := by kernel_rfl
theorem i_30 : (Tryd.prog.info? 30).map (fun i => (i.zero, i.size, i.bytes)) = some (some (.agg #[(.int .i64 0), (.int .i64 0), (.int .i64 0), (.int .i64 0), (.int .i64 0), (.int .i64 0), (.int .i64 0), (.int .i64 0), (.int .i64 0), (.int .i64 0), (.slice none 0 0), (.slice none 0 0), (.slice none 0 0), (.slice none 0 0), (.int .i64 0), (.int .i64 0), (.slice none 0 0), (.slice none 0 0)]), 18, 240) := by kernel_rfl
theorem r_31 : (Tryd.prog.underlying 31).map TypeDesc.isRow = some true := by kernel_rfl
theorem sz_31 : (Tryd.prog.info? 31).map (·.size) = some 18 := by kernel_rfl
theorem i_31 : (Tryd.prog.info? 31).map (fun i => (i.zero, i.size, i.bytes)) = some (some (.agg #[(.int .i64 0), (.int .i64 0), (.int .i64 0), (.int .i64 0), (.int .i64 0), (.int .i64 0), (.int .i64 0), (.int .i64 0), (.int .i64 0), (.int .i64 0), (.slice none 0 0), (.slice none 0 0), (.slice none 0 0), (.slice none 0 0), (.int .i64 0), (.int .i64 0), (.slice none 0 0), (.slice none 0 0)]), 18, 240) := by kernel_rfl
theorem r_33 : (Tryd.prog.underlying 33).map TypeDesc.isRow = some false := by kernel_rfl
theorem sz_33 : (Tryd.prog.info? 33).map (·.size) = some 1 := by kernel_rfl
theorem i_33 : (Tryd.prog.info? 33).map (fun i => (i.zero, i.size, i.bytes)) = some (some (.pointer none), 1, 8) := by kernel_rfl
theorem r_36 : (Tryd.prog.underlying 36).map TypeDesc.isRow = some false := by kernel_rfl
theorem sz_36 : (Tryd.prog.info? 36).map (·.size) = some 1 := by kernel_rfl
theorem u_36 : Tryd.prog.underlying 36 = some (.slice 2) := by kernel_rfl
theorem i_36 : (Tryd.prog.info? 36).map (fun i => (i.zero, i.size, i.bytes)) = some (some (.slice none 0 0), 1, 24) := by kernel_rfl
theorem r_40 : (Tryd.prog.underlying 40).map TypeDesc.isRow = some false := by kernel_rfl
theorem sz_40 : (Tryd.prog.info? 40).map (·.size) = some 1 := by kernel_rfl
theorem u_40 : Tryd.prog.underlying 40 = some (.slice 36) := by kernel_rfl
theorem i_40 : (Tryd.prog.info? 40).map (fun i => (i.zero, i.size, i.bytes)) = some (some (.slice none 0 0), 1, 24) := by kernel_rfl
theorem r_44 : (Tryd.prog.underlying 44).map TypeDesc.isRow = some false := by kernel_rfl
theorem sz_44 : (Tryd.prog.info? 44).map (·.size) = some 1 := by kernel_rfl
theorem u_44 : Tryd.prog.underlying 44 = some (.slice 49) := by kernel_rfl
theorem i_44 : (Tryd.prog.info? 44).map (fun i => (i.zero, i.size, i.bytes)) = some (some (.slice none 0 0), 1, 24) := by kernel_rfl
theorem r_46 : (Tryd.prog.underlying 46).map TypeDesc.isRow = some false := by kernel_rfl
theorem sz_46 : (Tryd.prog.info? 46).map (·.size) = some 1 := by kernel_rfl
theorem u_46 : Tryd.prog.underlying 46 = some (.slice 51) := by kernel_rfl
theorem i_46 : (Tryd.prog.info? 46).map (fun i => (i.zero, i.size, i.bytes)) = some (some (.slice none 0 0), 1, 24) := by kernel_rfl
theorem r_47 : (Tryd.prog.underlying 47).map TypeDesc.isRow = some false := by kernel_rfl
theorem sz_47 : (Tryd.prog.info? 47).map (·.size) = some 1 := by kernel_rfl
theorem u_47 : Tryd.prog.underlying 47 = some (.slice 3) := by kernel_rfl
theorem i_47 : (Tryd.prog.info? 47).map (fun i => (i.zero, i.size, i.bytes)) = some (some (.slice none 0 0), 1, 24) := by kernel_rfl
theorem r_48 : (Tryd.prog.underlying 48).map TypeDesc.isRow = some true := by kernel_rfl
theorem sz_48 : (Tryd.prog.info? 48).map (·.size) = some 2 := by kernel_rfl
theorem i_48 : (Tryd.prog.info? 48).map (fun i => (i.zero, i.size, i.bytes)) = some (some (.agg #[(.slice none 0 0), (.slice none 0 0)]), 2, 48) := by kernel_rfl
theorem r_49 : (Tryd.prog.underlying 49).map TypeDesc.isRow = some true := by kernel_rfl
theorem sz_49 : (Tryd.prog.info? 49).map (·.size) = some 2 := by kernel_rfl
theorem i_49 : (Tryd.prog.info? 49).map (fun i => (i.zero, i.size, i.bytes)) = some (some (.agg #[(.slice none 0 0), (.slice none 0 0)]), 2, 48) := by kernel_rfl
theorem r_51 : (Tryd.prog.underlying 51).map TypeDesc.isRow = some false := by kernel_rfl
theorem sz_51 : (Tryd.prog.info? 51).map (·.size) = some 1 := by kernel_rfl
theorem u_51 : Tryd.prog.underlying 51 = some (.slice 59) := by kernel_rfl
theorem i_51 : (Tryd.prog.info? 51).map (fun i => (i.zero, i.size, i.bytes)) = some (some (.slice none 0 0), 1, 24) := by kernel_rfl
theorem r_58 : (Tryd.prog.underlying 58).map TypeDesc.isRow = some true := by kernel_rfl
theorem sz_58 : (Tryd.prog.info? 58).map (·.size) = some 2 := by kernel_rfl
theorem i_58 : (Tryd.prog.info? 58).map (fun i => (i.zero, i.size, i.bytes)) = some (some (.agg #[(.int .i64 0), (.int .i64 0)]), 2, 16) := by kernel_rfl
theorem r_59 : (Tryd.prog.underlying 59).map TypeDesc.isRow = some true := by kernel_rfl
theorem sz_59 : (Tryd.prog.info? 59).map (·.size) = some 2 := by kernel_rfl
theorem i_59 : (Tryd.prog.info? 59).map (fun i => (i.zero, i.size, i.bytes)) = some (some (.agg #[(.int .i64 0), (.int .i64 0)]), 2, 16) := by kernel_rfl
theorem r_63 : (Tryd.prog.underlying 63).map TypeDesc.isRow = some false := by kernel_rfl
theorem sz_63 : (Tryd.prog.info? 63).map (·.size) = some 1 := by kernel_rfl
theorem u_63 : Tryd.prog.underlying 63 = some (.int .i8) := by kernel_rfl
theorem i_63 : (Tryd.prog.info? 63).map (fun i => (i.zero, i.size, i.bytes)) = some (some (.int .i8 0), 1, 1) := by kernel_rfl
theorem r_64 : (Tryd.prog.underlying 64).map TypeDesc.isRow = some false := by kernel_rfl
theorem sz_64 : (Tryd.prog.info? 64).map (·.size) = some 1 := by kernel_rfl
theorem u_64 : Tryd.prog.underlying 64 = some (.slice 47) := by kernel_rfl
theorem i_64 : (Tryd.prog.info? 64).map (fun i => (i.zero, i.size, i.bytes)) = some (some (.slice none 0 0), 1, 24) := by kernel_rfl
theorem r_72 : (Tryd.prog.underlying 72).map TypeDesc.isRow = some false := by kernel_rfl
theorem sz_72 : (Tryd.prog.info? 72).map (·.size) = some 1 := by kernel_rfl
theorem u_72 : Tryd.prog.underlying 72 = some (.slice 76) := by kernel_rfl
theorem i_72 : (Tryd.prog.info? 72).map (fun i => (i.zero, i.size, i.bytes)) = some (some (.slice none 0 0), 1, 24) := by kernel_rfl
theorem r_75 : (Tryd.prog.underlying 75).map TypeDesc.isRow = some true := by kernel_rfl
theorem sz_75 : (Tryd.prog.info? 75).map (·.size) = some 3 := by kernel_rfl
theorem i_75 : (Tryd.prog.info? 75).map (fun i => (i.zero, i.size, i.bytes)) = some (some (.agg #[(.int .i64 0), (.int .i64 0), (.int .i64 0)]), 3, 24) := by kernel_rfl
theorem r_76 : (Tryd.prog.underlying 76).map TypeDesc.isRow = some true := by kernel_rfl
theorem sz_76 : (Tryd.prog.info? 76).map (·.size) = some 3 := by kernel_rfl
theorem i_76 : (Tryd.prog.info? 76).map (fun i => (i.zero, i.size, i.bytes)) = some (some (.agg #[(.int .i64 0), (.int .i64 0), (.int .i64 0)]), 3, 24) := by kernel_rfl
theorem r_92 : (Tryd.prog.underlying 92).map TypeDesc.isRow = some true := by kernel_rfl
theorem sz_92 : (Tryd.prog.info? 92).map (·.size) = some 2 := by kernel_rfl
theorem i_92 : (Tryd.prog.info? 92).map (fun i => (i.zero, i.size, i.bytes)) = some (some (.agg #[(.int .i64 0), (.int .i64 0)]), 2, 16) := by kernel_rfl
theorem r_93 : (Tryd.prog.underlying 93).map TypeDesc.isRow = some true := by kernel_rfl
theorem sz_93 : (Tryd.prog.info? 93).map (·.size) = some 2 := by kernel_rfl
theorem i_93 : (Tryd.prog.info? 93).map (fun i => (i.zero, i.size, i.bytes)) = some (some (.agg #[(.int .i64 0), (.int .i64 0)]), 2, 16) := by kernel_rfl
theorem r_96 : (Tryd.prog.underlying 96).map TypeDesc.isRow = some false := by kernel_rfl
theorem sz_96 : (Tryd.prog.info? 96).map (·.size) = some 1 := by kernel_rfl
theorem i_96 : (Tryd.prog.info? 96).map (fun i => (i.zero, i.size, i.bytes)) = some (some .nilFunc, 1, 8) := by kernel_rfl
theorem r_105 : (Tryd.prog.underlying 105).map TypeDesc.isRow = some true := by kernel_rfl
theorem sz_105 : (Tryd.prog.info? 105).map (·.size) = some 7 := by kernel_rfl
theorem u_105 : Tryd.prog.underlying 105 = some (.array 7 3) := by kernel_rfl
theorem i_105 : (Tryd.prog.info? 105).map (fun i => (i.zero, i.size, i.bytes)) = some (some (.agg #[(.int .i64 0), (.int .i64 0), (.int .i64 0), (.int .i64 0), (.int .i64 0), (.int .i64 0), (.int .i64 0)]), 7, 56) := by kernel_rfl
theorem r_106 : (Tryd.prog.underlying 106).map TypeDesc.isRow = some true := by kernel_rfl
theorem sz_106 : (Tryd.prog.info? 106).map (·.size) = some 7 := by kernel_rfl
theorem u_106 : Tryd.prog.underlying 106 = some (.array 7 3) := by kernel_rfl
theorem i_106 : (Tryd.prog.info? 106).map (fun i => (i.zero, i.size, i.bytes)) = some (some (.agg #[(.int .i64 0), (.int .i64 0), (.int .i64 0), (.int .i64 0), (.int .i64 0), (.int .i64 0), (.int .i64 0)]), 7, 56) := by kernel_rfl
theorem r_107 : (Tryd.prog.underlying 107).map TypeDesc.isRow = some true := by kernel_rfl
theorem sz_107 : (Tryd.prog.info? 107).map (·.size) = some 30 := by kernel_rfl
theorem i_107 : (Tryd.prog.info? 107).map (fun i => (i.zero, i.size, i.bytes)) = some (some (.agg #[(.slice none 0 0), (.slice none 0 0), (.int .i64 0), (.int .i64 0), (.slice none 0 0), (.int .i64 0), (.int .i64 0), (.slice none 0 0), (.int .i64 0), (.int .i64 0), (.slice none 0 0), (.int .i64 0), (.int .i64 0), (.slice none 0 0), (.int .i64 0), (.int .i64 0), (.slice none 0 0), (.int .i64 0), (.int .i64 0), (.slice none 0 0), (.int .i64 0), (.int .i64 0), (.slice none 0 0), (.int .i64 0), (.int .i64 0), (.int .i64 0), (.int .i64 0), (.int .i64 0), (.int .i64 0), (.int .i64 0)]), 30, 384) := by kernel_rfl
theorem r_108 : (Tryd.prog.underlying 108).map TypeDesc.isRow = some true := by kernel_rfl
theorem sz_108 : (Tryd.prog.info? 108).map (·.size) = some 30 := by kernel_rfl
theorem i_108 : (Tryd.prog.info? 108).map (fun i => (i.zero, i.size, i.bytes)) = some (some (.agg #[(.slice none 0 0), (.slice none 0 0), (.int .i64 0), (.int .i64 0), (.slice none 0 0), (.int .i64 0), (.int .i64 0), (.slice none 0 0), (.int .i64 0), (.int .i64 0), (.slice none 0 0), (.int .i64 0), (.int .i64 0), (.slice none 0 0), (.int .i64 0), (.int .i64 0), (.slice none 0 0), (.int .i64 0), (.int .i64 0), (.slice none 0 0), (.int .i64 0), (.int .i64 0), (.slice none 0 0), (.int .i64 0), (.int .i64 0), (.int .i64 0), (.int .i64 0), (.int .i64 0), (.int .i64 0), (.int .i64 0)]), 30, 384) := by kernel_rfl
theorem r_109 : (Tryd.prog.underlying 109).map TypeDesc.isRow = some true := by kernel_rfl
theorem sz_109 : (Tryd.prog.info? 109).map (·.size) = some 18 := by kernel_rfl
theorem i_109 : (Tryd.prog.info? 109).map (fun i => (i.zero, i.size, i.bytes)) = some (some (.agg #[(.int .i64 0), (.int .i64 0), (.int .i64 0), (.int .i64 0), (.int .i64 0), (.int .i64 0), (.int .i64 0), (.int .i64 0), (.int .i64 0), (.int .i64 0), (.slice none 0 0), (.slice none 0 0), (.slice none 0 0), (.slice none 0 0), (.int .i64 0), (.int .i64 0), (.slice none 0 0), (.slice none 0 0)]), 18, 240) := by kernel_rfl
theorem r_110 : (Tryd.prog.underlying 110).map TypeDesc.isRow = some true := by kernel_rfl
theorem sz_110 : (Tryd.prog.info? 110).map (·.size) = some 18 := by kernel_rfl
theorem i_110 : (Tryd.prog.info? 110).map (fun i => (i.zero, i.size, i.bytes)) = some (some (.agg #[(.int .i64 0), (.int .i64 0), (.int .i64 0), (.int .i64 0), (.int .i64 0), (.int .i64 0), (.int .i64 0), (.int .i64 0), (.int .i64 0), (.int .i64 0), (.slice none 0 0), (.slice none 0 0), (.slice none 0 0), (.slice none 0 0), (.int .i64 0), (.int .i64 0), (.slice none 0 0), (.slice none 0 0)]), 18, 240) := by kernel_rfl
theorem r_116 : (Tryd.prog.underlying 116).map TypeDesc.isRow = some true := by kernel_rfl
theorem sz_116 : (Tryd.prog.info? 116).map (·.size) = some 2 := by kernel_rfl
theorem i_116 : (Tryd.prog.info? 116).map (fun i => (i.zero, i.size, i.bytes)) = some (some (.agg #[(.int .i64 0), (.int .i64 0)]), 2, 16) := by kernel_rfl
theorem r_117 : (Tryd.prog.underlying 117).map TypeDesc.isRow = some true := by kernel_rfl
theorem sz_117 : (Tryd.prog.info? 117).map (·.size) = some 2 := by kernel_rfl
theorem i_117 : (Tryd.prog.info? 117).map (fun i => (i.zero, i.size, i.bytes)) = some (some (.agg #[(.int .i64 0), (.int .i64 0)]), 2, 16) := by kernel_rfl
theorem r_124 : (Tryd.prog.underlying 124).map TypeDesc.isRow = some false := by kernel_rfl
theorem sz_124 : (Tryd.prog.info? 124).map (·.size) = some 1 := by kernel_rfl
theorem i_124 : (Tryd.prog.info? 124).map (fun i => (i.zero, i.size, i.bytes)) = some (some (.pointer none), 1, 8) := by kernel_rfl
theorem r_125 : (Tryd.prog.underlying 125).map TypeDesc.isRow = some false := by kernel_rfl
theorem sz_125 : (Tryd.prog.info? 125).map (·.size) = some 1 := by kernel_rfl
theorem u_125 : Tryd.prog.underlying 125 = some (.slice 129) := by kernel_rfl
theorem i_125 : (Tryd.prog.info? 125).map (fun i => (i.zero, i.size, i.bytes)) = some (some (.slice none 0 0), 1, 24) := by kernel_rfl
theorem r_127 : (Tryd.prog.underlying 127).map TypeDesc.isRow = some false := by kernel_rfl
theorem sz_127 : (Tryd.prog.info? 127).map (·.size) = some 1 := by kernel_rfl
theorem i_127 : (Tryd.prog.info? 127).map (fun i => (i.zero, i.size, i.bytes)) = some (some .nilFunc, 1, 8) := by kernel_rfl
theorem r_128 : (Tryd.prog.underlying 128).map TypeDesc.isRow = some true := by kernel_rfl
theorem sz_128 : (Tryd.prog.info? 128).map (·.size) = some 3 := by kernel_rfl
theorem i_128 : (Tryd.prog.info? 128).map (fun i => (i.zero, i.size, i.bytes)) = some (some (.agg #[.nilFunc, (.int .i64 0), (.int .i64 0)]), 3, 24) := by kernel_rfl
theorem r_129 : (Tryd.prog.underlying 129).map TypeDesc.isRow = some true := by kernel_rfl
theorem sz_129 : (Tryd.prog.info? 129).map (·.size) = some 3 := by kernel_rfl
theorem i_129 : (Tryd.prog.info? 129).map (fun i => (i.zero, i.size, i.bytes)) = some (some (.agg #[.nilFunc, (.int .i64 0), (.int .i64 0)]), 3, 24) := by kernel_rfl
theorem r_137 : (Tryd.prog.underlying 137).map TypeDesc.isRow = some true := by kernel_rfl
theorem sz_137 : (Tryd.prog.info? 137).map (·.size) = some 2 := by kernel_rfl
theorem i_137 : (Tryd.prog.info? 137).map (fun i => (i.zero, i.size, i.bytes)) = some (some (.agg #[(.int .i64 0), (.int .i64 0)]), 2, 16) := by kernel_rfl
theorem r_138 : (Tryd.prog.underlying 138).map TypeDesc.isRow = some true := by kernel_rfl
theorem sz_138 : (Tryd.prog.info? 138).map (·.size) = some 14 := by kernel_rfl
theorem u_138 : Tryd.prog.underlying 138 = some (.array 7 137) := by kernel_rfl
theorem i_138 : (Tryd.prog.info? 138).map (fun i => (i.zero, i.size, i.bytes)) = some (some (.agg #[(.int .i64 0), (.int .i64 0), (.int .i64 0), (.int .i64 0), (.int .i64 0), (.int .i64 0), (.int .i64 0), (.int .i64 0), (.int .i64 0), (.int .i64 0), (.int .i64 0), (.int .i64 0), (.int .i64 0), (.int .i64 0)]), 14, 112) := by kernel_rfl
theorem r_140 : (Tryd.prog.underlying 140).map TypeDesc.isRow = some false := by kernel_rfl
theorem sz_140 : (Tryd.prog.info? 140).map (·.size) = some 1 := by kernel_rfl
theorem u_140 : Tryd.prog.underlying 140 = some (.int .u64) := by kernel_rfl
theorem i_140 : (Tryd.prog.info? 140).map (fun i => (i.zero, i.size, i.bytes)) = some (some (.int .u64 0), 1, 8) := by kernel_rfl
theorem al_4 (w : World) : (Instr.alloc 4 true (.tuple #[])).run Tryd.prog w = .ok (.pointer (some ⟨w.heap.size, 0, none⟩)) (w.alloc (.cells ([(.bool false)] : List Value).toArray 4)) := by kernel_rfl
theorem al_23 (w : World) : (Instr.alloc 23 true (.tuple #[])).run Tryd.prog w = .ok (.pointer (some ⟨w.heap.size, 0, none⟩)) (w.alloc (.cells ([(.int .i64 0), (.int .i64 0), (.int .i64 0), (.int .i64 0), (.int .i64 0), (.int .i64 0), (.int .i64 0), (.int .i64 0)] : List Value).toArray 23)) := by kernel_rfl
theorem al_26 (w : World) : (Instr.alloc 26 true (.tuple #[])).run Tryd.prog w = .ok (.pointer (some ⟨w.heap.size, 0, none⟩)) (w.alloc (.cells ([(.int .i64 0), (.int .i64 0), (.slice none 0 0)] : List Value).toArray 26)) := by kernel_rfl
theorem al_31 (w : World) : (Instr.alloc 31 true (.tuple #[])).run Tryd.prog w = .ok (.pointer (some ⟨w.heap.size, 0, none⟩)) (w.alloc (.cells ([(.int .i64 0), (.int .i64 0), (.int .i64 0), (.int .i64 0), (.int .i64 0), (.int .i64 0), (.int .i64 0), (.int .i64 0), (.int .i64 0), (.int .i64 0), (.slice none 0 0), (.slice none 0 0), (.slice none 0 0), (.slice none 0 0), (.int .i64 0), (.int .i64 0), (.slice none 0 0), (.slice none 0 0)] : List Value).toArray 31)) := by kernel_rfl
theorem al_36 (w : World) : (Instr.alloc 36 true (.tuple #[])).run Tryd.prog w = .ok (.pointer (some ⟨w.heap.size, 0, none⟩)) (w.alloc (.cells ([(.slice none 0 0)] : List Value).toArray 36)) := by kernel_rfl
theorem al_47 (w : World) : (Instr.alloc 47 true (.tuple #[])).run Tryd.prog w = .ok (.pointer (some ⟨w.heap.size, 0, none⟩)) (w.alloc (.cells ([(.slice none 0 0)] : List Value).toArray 47)) := by kernel_rfl
theorem al_49 (w : World) : (Instr.alloc 49 true (.tuple #[])).run Tryd.prog w = .ok (.pointer (some ⟨w.heap.size, 0, none⟩)) (w.alloc (.cells ([(.slice none 0 0), (.slice none 0 0)] : List Value).toArray 49)) := by kernel_rfl
theorem al_59 (w : World) : (Instr.alloc 59 true (.tuple #[])).run Tryd.prog w = .ok (.pointer (some ⟨w.heap.size, 0, none⟩)) (w.alloc (.cells ([(.int .i64 0), (.int .i64 0)] : List Value).toArray 59)) := by kernel_rfl
theorem al_72 (w : World) : (Instr.alloc 72 true (.tuple #[])).run Tryd.prog w = .ok (.pointer (some ⟨w.heap.size, 0, none⟩)) (w.alloc (.cells ([(.slice none 0 0)] : List Value).toArray 72)) := by kernel_rfl
theorem al_76 (w : World) : (Instr.alloc 76 true (.tuple #[])).run Tryd.prog w = .ok (.pointer (some ⟨w.heap.size, 0, none⟩)) (w.alloc (.cells ([(.int .i64 0), (.int .i64 0), (.int .i64 0)] : List Value).toArray 76)) := by kernel_rfl
theorem al_93 (w : World) : (Instr.alloc 93 true (.tuple #[])).run Tryd.prog w = .ok (.pointer (some ⟨w.heap.size, 0, none⟩)) (w.alloc (.cells ([(.int .i64 0), (.int .i64 0)] : List Value).toArray 93)) := by kernel_rfl
theorem al_108 (w : World) : (Instr.alloc 108 true (.tuple #[])).run Tryd.prog w = .ok (.pointer (some ⟨w.heap.size, 0, none⟩)) (w.alloc (.cells ([(.slice none 0 0), (.slice none 0 0), (.int .i64 0), (.int .i64 0), (.slice none 0 0), (.int .i64 0), (.int .i64 0), (.slice none 0 0), (.int .i64 0), (.int .i64 0), (.slice none 0 0), (.int .i64 0), (.int .i64 0), (.slice none 0 0), (.int .i64 0), (.int .i64 0), (.slice none 0 0), (.int .i64 0), (.int .i64 0), (.slice none 0 0), (.int .i64 0), (.int .i64 0), (.slice none 0 0), (.int .i64 0), (.int .i64 0), (.int .i64 0), (.int .i64 0), (.int .i64 0), (.int .i64 0), (.int .i64 0)] : List Value).toArray 108)) := by kernel_rfl
theorem al_117 (w : World) : (Instr.alloc 117 true (.tuple #[])).run Tryd.prog w = .ok (.pointer (some ⟨w.heap.size, 0, none⟩)) (w.alloc (.cells ([(.int .i64 0), (.int .i64 0)] : List Value).toArray 117)) := by kernel_rfl
theorem al_129 (w : World) : (Instr.alloc 129 true (.tuple #[])).run Tryd.prog w = .ok (.pointer (some ⟨w.heap.size, 0, none⟩)) (w.alloc (.cells ([.nilFunc, (.int .i64 0), (.int .i64 0)] : List Value).toArray 129)) := by kernel_rfl
theorem fa_23_0 (a : Addr) (w : World) : (Instr.fieldAt 23 (.pointer (some a)) 0).run Tryd.prog w = .ok (.pointer (some (a.add 0))) w := by kernel_rfl
theorem fa_23_1 (a : Addr) (w : World) : (Instr.fieldAt 23 (.pointer (some a)) 1).run Tryd.prog w = .ok (.pointer (some (a.add 1))) w := by kernel_rfl
theorem fa_23_2 (a : Addr) (w : World) : (Instr.fieldAt 23 (.pointer (some a)) 2).run Tryd.prog w = .ok (.pointer (some (a.add 2))) w := by kernel_rfl
theorem fa_23_3 (a : Addr) (w : World) : (Instr.fieldAt 23 (.pointer (some a)) 3).run Tryd.prog w = .ok (.pointer (some (a.add 3))) w := by kernel_rfl
theorem fa_23_4 (a : Addr) (w : World) : (Instr.fieldAt 23 (.pointer (some a)) 4).run Tryd.prog w = .ok (.pointer (some (a.add 4))) w := by kernel_rfl
theorem fa_23_5 (a : Addr) (w : World) : (Instr.fieldAt 23 (.pointer (some a)) 5).run Tryd.prog w = .ok (.pointer (some (a.add 5))) w := by kernel_rfl
theorem fa_23_6 (a : Addr) (w : World) : (Instr.fieldAt 23 (.pointer (some a)) 6).run Tryd.prog w = .ok (.pointer (some (a.add 6))) w := by kernel_rfl
theorem fa_23_7 (a : Addr) (w : World) : (Instr.fieldAt 23 (.pointer (some a)) 7).run Tryd.prog w = .ok (.pointer (some (a.add 7))) w := by kernel_rfl
theorem fa_26_0 (a : Addr) (w : World) : (Instr.fieldAt 26 (.pointer (some a)) 0).run Tryd.prog w = .ok (.pointer (some (a.add 0))) w := by kernel_rfl
theorem fa_26_1 (a : Addr) (w : World) : (Instr.fieldAt 26 (.pointer (some a)) 1).run Tryd.prog w = .ok (.pointer (some (a.add 1))) w := by kernel_rfl
theorem fa_26_2 (a : Addr) (w : World) : (Instr.fieldAt 26 (.pointer (some a)) 2).run Tryd.prog w = .ok (.pointer (some (a.add 2))) w := by kernel_rfl
theorem fa_31_0 (a : Addr) (w : World) : (Instr.fieldAt 31 (.pointer (some a)) 0).run Tryd.prog w = .ok (.pointer (some (a.add 0))) w := by kernel_rfl
theorem fa_31_1 (a : Addr) (w : World) : (Instr.fieldAt 31 (.pointer (some a)) 1).run Tryd.prog w = .ok (.pointer (some (a.add 8))) w := by kernel_rfl
theorem fa_31_2 (a : Addr) (w : World) : (Instr.fieldAt 31 (.pointer (some a)) 2).run Tryd.prog w = .ok (.pointer (some (a.add 11))) w := by kernel_rfl
theorem fa_31_3 (a : Addr) (w : World) : (Instr.fieldAt 31 (.pointer (some a)) 3).run Tryd.prog w = .ok (.pointer (some (a.add 12))) w := by kernel_rfl
theorem fa_31_4 (a : Addr) (w : World) : (Instr.fieldAt 31 (.pointer (some a)) 4).run Tryd.prog w = .ok (.pointer (some (a.add 13))) w := by kernel_rfl
theorem fa_31_5 (a : Addr) (w : World) : (Instr.fieldAt 31 (.pointer (some a)) 5).run Tryd.prog w = .ok (.pointer (some (a.add 14))) w := by kernel_rfl
theorem fa_31_6 (a : Addr) (w : World) : (Instr.fieldAt 31 (.pointer (some a)) 6).run Tryd.prog w = .ok (.pointer (some (a.add 17))) w := by kernel_rfl
theorem fa_49_0 (a : Addr) (w : World) : (Instr.fieldAt 49 (.pointer (some a)) 0).run Tryd.prog w = .ok (.pointer (some (a.add 0))) w := by kernel_rfl
theorem fa_49_1 (a : Addr) (w : World) : (Instr.fieldAt 49 (.pointer (some a)) 1).run Tryd.prog w = .ok (.pointer (some (a.add 1))) w := by kernel_rfl
theorem fa_59_0 (a : Addr) (w : World) : (Instr.fieldAt 59 (.pointer (some a)) 0).run Tryd.prog w = .ok (.pointer (some (a.add 0))) w := by kernel_rfl
theorem fa_59_1 (a : Addr) (w : World) : (Instr.fieldAt 59 (.pointer (some a)) 1).run Tryd.prog w = .ok (.pointer (some (a.add 1))) w := by kernel_rfl
theorem fa_76_0 (a : Addr) (w : World) : (Instr.fieldAt 76 (.pointer (some a)) 0).run Tryd.prog w = .ok (.pointer (some (a.add 0))) w := by kernel_rfl
theorem fa_76_1 (a : Addr) (w : World) : (Instr.fieldAt 76 (.pointer (some a)) 1).run Tryd.prog w = .ok (.pointer (some (a.add 1))) w := by kernel_rfl
theorem fa_76_2 (a : Addr) (w : World) : (Instr.fieldAt 76 (.pointer (some a)) 2).run Tryd.prog w = .ok (.pointer (some (a.add 2))) w := by kernel_rfl
theorem fa_108_0 (a : Addr) (w : World) : (Instr.fieldAt 108 (.pointer (some a)) 0).run Tryd.prog w = .ok (.pointer (some (a.add 0))) w := by kernel_rfl
theorem fa_108_1 (a : Addr) (w : World) : (Instr.fieldAt 108 (.pointer (some a)) 1).run Tryd.prog w = .ok (.pointer (some (a.add 1))) w := by kernel_rfl
theorem fa_108_2 (a : Addr) (w : World) : (Instr.fieldAt 108 (.pointer (some a)) 2).run Tryd.prog w = .ok (.pointer (some (a.add 2))) w := by kernel_rfl
theorem fa_108_3 (a : Addr) (w : World) : (Instr.fieldAt 108 (.pointer (some a)) 3).run Tryd.prog w = .ok (.pointer (some (a.add 5))) w := by kernel_rfl
theorem fa_108_4 (a : Addr) (w : World) : (Instr.fieldAt 108 (.pointer (some a)) 4).run Tryd.prog w = .ok (.pointer (some (a.add 8))) w := by kernel_rfl
theorem fa_108_5 (a : Addr) (w : World) : (Instr.fieldAt 108 (.pointer (some a)) 5).run Tryd.prog w = .ok (.pointer (some (a.add 11))) w := by kernel_rfl
theorem fa_108_6 (a : Addr) (w : World) : (Instr.fieldAt 108 (.pointer (some a)) 6).run Tryd.prog w = .ok (.pointer (some (a.add 14))) w := by kernel_rfl
theorem fa_108_7 (a : Addr) (w : World) : (Instr.fieldAt 108 (.pointer (some a)) 7).run Tryd.prog w = .ok (.pointer (some (a.add 17))) w := by kernel_rfl
theorem fa_108_8 (a : Addr) (w : World) : (Instr.fieldAt 108 (.pointer (some a)) 8).run Tryd.prog w = .ok (.pointer (some (a.add 20))) w := by kernel_rfl
theorem fa_108_9 (a : Addr) (w : World) : (Instr.fieldAt 108 (.pointer (some a)) 9).run Tryd.prog w = .ok (.pointer (some (a.add 23))) w := by kernel_rfl
theorem fa_110_0 (a : Addr) (w : World) : (Instr.fieldAt 110 (.pointer (some a)) 0).run Tryd.prog w = .ok (.pointer (some (a.add 0))) w := by kernel_rfl
theorem fa_117_0 (a : Addr) (w : World) : (Instr.fieldAt 117 (.pointer (some a)) 0).run Tryd.prog w = .ok (.pointer (some (a.add 0))) w := by kernel_rfl
theorem fa_117_1 (a : Addr) (w : World) : (Instr.fieldAt 117 (.pointer (some a)) 1).run Tryd.prog w = .ok (.pointer (some (a.add 1))) w := by kernel_rfl
theorem fa_129_0 (a : Addr) (w : World) : (Instr.fieldAt 129 (.pointer (some a)) 0).run Tryd.prog w = .ok (.pointer (some (a.add 0))) w := by kernel_rfl
theorem fa_129_1 (a : Addr) (w : World) : (Instr.fieldAt 129 (.pointer (some a)) 1).run Tryd.prog w = .ok (.pointer (some (a.add 1))) w := by kernel_rfl
theorem fa_129_2 (a : Addr) (w : World) : (Instr.fieldAt 129 (.pointer (some a)) 2).run Tryd.prog w = .ok (.pointer (some (a.add 2))) w := by kernel_rfl
theorem fa_137_0 (a : Addr) (w : World) : (Instr.fieldAt 137 (.pointer (some a)) 0).run Tryd.prog w = .ok (.pointer (some (a.add 0))) w := by kernel_rfl
theorem fa_137_1 (a : Addr) (w : World) : (Instr.fieldAt 137 (.pointer (some a)) 1).run Tryd.prog w = .ok (.pointer (some (a.add 1))) w := by kernel_rfl
theorem bd_23_e  (w : World) : (Instr.build 23 ([] : List (Nat × Value)).toArray).run Tryd.prog w = .ok (.agg #[(.int .i64 0), (.int .i64 0), (.int .i64 0), (.int .i64 0), (.int .i64 0), (.int .i64 0), (.int .i64 0), (.int .i64 0)]) w := by kernel_rfl
theorem bd_23_01234567 (a1 : Int) (a2 : Int) (a3 : Int) (a4 : Int) (a5 : Int) (a6 : Int) (a7 : Int) (a8 : Int) (w : World) : (Instr.build 23 ([(0, .int .i64 a1), (1, .int .i64 a2), (2, .int .i64 a3), (3, .int .i64 a4), (4, .int .i64 a5), (5, .int .i64 a6), (6, .int .i64 a7), (7, .int .i64 a8)] : List (Nat × Value)).toArray).run Tryd.prog w = .ok (.agg #[.int .i64 a1, .int .i64 a2, .int .i64 a3, .int .i64 a4, .int .i64 a5, .int .i64 a6, .int .i64 a7, .int .i64 a8]) w := by kernel_rfl
theorem bd_26_012 (a9 : Int) (a10 : Int) (A11 : Option Addr) (m11 c11 : Nat) (w : World) : (Instr.build 26 ([(0, .int .i64 a9), (1, .int .i64 a10), (2, .slice A11 m11 c11)] : List (Nat × Value)).toArray).run Tryd.prog w = .ok (.agg #[.int .i64 a9, .int .i64 a10, .slice A11 m11 c11]) w := by kernel_rfl
theorem bd_31_e  (w : World) : (Instr.build 31 ([] : List (Nat × Value)).toArray).run Tryd.prog w = .ok (.agg #[(.int .i64 0), (.int .i64 0), (.int .i64 0), (.int .i64 0), (.int .i64 0), (.int .i64 0), (.int .i64 0), (.int .i64 0), (.int .i64 0), (.int .i64 0), (.slice none 0 0), (.slice none 0 0), (.slice none 0 0), (.slice none 0 0), (.int .i64 0), (.int .i64 0), (.slice none 0 0), (.slice none 0 0)]) w := by kernel_rfl
theorem bd_31_01245 (a13 : Int) (a14 : Int) (a15 : Int) (a16 : Int) (a17 : Int) (a18 : Int) (a19 : Int) (a20 : Int) (a22 : Int) (a23 : Int) (A24 : Option Addr) (m24 c24 : Nat) (A25 : Option Addr) (m25 c25 : Nat) (A26 : Option Addr) (m26 c26 : Nat) (a28 : Int) (a29 : Int) (A30 : Option Addr) (m30 c30 : Nat) (w : World) : (Instr.build 31 ([(0, .agg #[.int .i64 a13, .int .i64 a14, .int .i64 a15, .int .i64 a16, .int .i64 a17, .int .i64 a18, .int .i64 a19, .int .i64 a20]), (1, .agg #[.int .i64 a22, .int .i64 a23, .slice A24 m24 c24]), (2, .slice A25 m25 c25), (4, .slice A26 m26 c26), (5, .agg #[.int .i64 a28, .int .i64 a29, .slice A30 m30 c30])] : List (Nat × Value)).toArray).run Tryd.prog w = .ok (.agg #[.int .i64 a13, .int .i64 a14, .int .i64 a15, .int .i64 a16, .int .i64 a17, .int .i64 a18, .int .i64 a19, .int .i64 a20, .int .i64 a22, .int .i64 a23, .slice A24 m24 c24, .slice A25 m25 c25, (.slice none 0 0), .slice A26 m26 c26, .int .i64 a28, .int .i64 a29, .slice A30 m30 c30, (.slice none 0 0)]) w := by kernel_rfl
theorem bd_31_0234 (a32 : Int) (a33 : Int) (a34 : Int) (a35 : Int) (a36 : Int) (a37 : Int) (a38 : Int) (a39 : Int) (A40 : Option Addr) (m40 c40 : Nat) (A41 : Option Addr) (m41 c41 : Nat) (A42 : Option Addr) (m42 c42 : Nat) (w : World) : (Instr.build 31 ([(0, .agg #[.int .i64 a32, .int .i64 a33, .int .i64 a34, .int .i64 a35, .int .i64 a36, .int .i64 a37, .int .i64 a38, .int .i64 a39]), (2, .slice A40 m40 c40), (3, .slice A41 m41 c41), (4, .slice A42 m42 c42)] : List (Nat × Value)).toArray).run Tryd.prog w = .ok (.agg #[.int .i64 a32, .int .i64 a33, .int .i64 a34, .int .i64 a35, .int .i64 a36, .int .i64 a37, .int .i64 a38, .int .i64 a39, (.int .i64 0), (.int .i64 0), (.slice none 0 0), .slice A40 m40 c40, .slice A41 m41 c41, .slice A42 m42 c42, (.int .i64 0), (.int .i64 0), (.slice none 0 0), (.slice none 0 0)]) w := by kernel_rfl
theorem bd_49_01 (A43 : Option Addr) (m43 c43 : Nat) (A44 : Option Addr) (m44 c44 : Nat) (w : World) : (Instr.build 49 ([(0, .slice A43 m43 c43), (1, .slice A44 m44 c44)] : List (Nat × Value)).toArray).run Tryd.prog w = .ok (.agg #[.slice A43 m43 c43, .slice A44 m44 c44]) w := by kernel_rfl
theorem bd_59_01 (a45 : Int) (a46 : Int) (w : World) : (Instr.build 59 ([(0, .int .i64 a45), (1, .int .i64 a46)] : List (Nat × Value)).toArray).run Tryd.prog w = .ok (.agg #[.int .i64 a45, .int .i64 a46]) w := by kernel_rfl
theorem bd_76_01 (a47 : Int) (a48 : Int) (w : World) : (Instr.build 76 ([(0, .int .i64 a47), (1, .int .i64 a48)] : List (Nat × Value)).toArray).run Tryd.prog w = .ok (.agg #[.int .i64 a47, .int .i64 a48, (.int .i64 0)]) w := by kernel_rfl
theorem bd_76_012 (a49 : Int) (a50 : Int) (a51 : Int) (w : World) : (Instr.build 76 ([(0, .int .i64 a49), (1, .int .i64 a50), (2, .int .i64 a51)] : List (Nat × Value)).toArray).run Tryd.prog w = .ok (.agg #[.int .i64 a49, .int .i64 a50, .int .i64 a51]) w := by kernel_rfl
theorem bd_93_01 (a52 : Int) (a53 : Int) (w : World) : (Instr.build 93 ([(0, .int .i64 a52), (1, .int .i64 a53)] : List (Nat × Value)).toArray).run Tryd.prog w = .ok (.agg #[.int .i64 a52, .int .i64 a53]) w := by kernel_rfl
theorem bd_108_012345678 (A54 : Option Addr) (m54 c54 : Nat) (A55 : Option Addr) (m55 c55 : Nat) (a57 : Int) (a58 : Int) (A59 : Option Addr) (m59 c59 : Nat) (a61 : Int) (a62 : Int) (A63 : Option Addr) (m63 c63 : Nat) (a65 : Int) (a66 : Int) (A67 : Option Addr) (m67 c67 : Nat) (a69 : Int) (a70 : Int) (A71 : Option Addr) (m71 c71 : Nat) (a73 : Int) (a74 : Int) (A75 : Option Addr) (m75 c75 : Nat) (a77 : Int) (a78 : Int) (A79 : Option Addr) (m79 c79 : Nat) (a81 : Int) (a82 : Int) (A83 : Option Addr) (m83 c83 : Nat) (w : World) : (Instr.build 108 ([(0, .slice A54 m54 c54), (1, .slice A55 m55 c55), (2, .agg #[.int .i64 a57, .int .i64 a58, .slice A59 m59 c59]), (3, .agg #[.int .i64 a61, .int .i64 a62, .slice A63 m63 c63]), (4, .agg #[.int .i64 a65, .int .i64 a66, .slice A67 m67 c67]), (5, .agg #[.int .i64 a69, .int .i64 a70, .slice A71 m71 c71]), (6, .agg #[.int .i64 a73, .int .i64 a74, .slice A75 m75 c75]), (7, .agg #[.int .i64 a77, .int .i64 a78, .slice A79 m79 c79]), (8, .agg #[.int .i64 a81, .int .i64 a82, .slice A83 m83 c83])] : List (Nat × Value)).toArray).run Tryd.prog w = .ok (.agg #[.slice A54 m54 c54, .slice A55 m55 c55, .int .i64 a57, .int .i64 a58, .slice A59 m59 c59, .int .i64 a61, .int .i64 a62, .slice A63 m63 c63, .int .i64 a65, .int .i64 a66, .slice A67 m67 c67, .int .i64 a69, .int .i64 a70, .slice A71 m71 c71, .int .i64 a73, .int .i64 a74, .slice A75 m75 c75, .int .i64 a77, .int .i64 a78, .slice A79 m79 c79, .int .i64 a81, .int .i64 a82, .slice A83 m83 c83, (.int .i64 0), (.int .i64 0), (.int .i64 0), (.int .i64 0), (.int .i64 0), (.int .i64 0), (.int .i64 0)]) w := by kernel_rfl
theorem bd_110_0 (a86 : Int) (a87 : Int) (a88 : Int) (a89 : Int) (a90 : Int) (a91 : Int) (a92 : Int) (a93 : Int) (a95 : Int) (a96 : Int) (A97 : Option Addr) (m97 c97 : Nat) (A98 : Option Addr) (m98 c98 : Nat) (A99 : Option Addr) (m99 c99 : Nat) (A100 : Option Addr) (m100 c100 : Nat) (a102 : Int) (a103 : Int) (A104 : Option Addr) (m104 c104 : Nat) (A105 : Option Addr) (m105 c105 : Nat) (w : World) : (Instr.build 110 ([(0, .agg #[.int .i64 a86, .int .i64 a87, .int .i64 a88, .int .i64 a89, .int .i64 a90, .int .i64 a91, .int .i64 a92, .int .i64 a93, .int .i64 a95, .int .i64 a96, .slice A97 m97 c97, .slice A98 m98 c98, .slice A99 m99 c99, .slice A100 m100 c100, .int .i64 a102, .int .i64 a103, .slice A104 m104 c104, .slice A105 m105 c105])] : List (Nat × Value)).toArray).run Tryd.prog w = .ok (.agg #[.int .i64 a86, .int .i64 a87, .int .i64 a88, .int .i64 a89, .int .i64 a90, .int .i64 a91, .int .i64 a92, .int .i64 a93, .int .i64 a95, .int .i64 a96, .slice A97 m97 c97, .slice A98 m98 c98, .slice A99 m99 c99, .slice A100 m100 c100, .int .i64 a102, .int .i64 a103, .slice A104 m104 c104, .slice A105 m105 c105]) w := by kernel_rfl
theorem bd_117_0 (a106 : Int) (w : World) : (Instr.build 117 ([(0, .int .i64 a106)] : List (Nat × Value)).toArray).run Tryd.prog w = .ok (.agg #[.int .i64 a106, (.int .i64 0)]) w := by kernel_rfl
theorem bd_129_0 (fn107 : Fn) (f107 c107 : Array Value) (w : World) : (Instr.build 129 ([(0, .func fn107 f107 c107)] : List (Nat × Value)).toArray).run Tryd.prog w = .ok (.agg #[.func fn107 f107 c107, (.int .i64 0), (.int .i64 0)]) w := by kernel_rfl
theorem bs_24_1 (a108 : Int) : Instr.fill (fun i => some (i * 1, 1)) ((Array.range (1 * 1)).map (((.int .i8 0) : Value).cells[· % ((.int .i8 0) : Value).cells.size]!)) [(0, .int .i8 a108)] = some ([.int .i8 a108] : List Value).toArray := by kernel_rfl
theorem bs_24_2 (a109 : Int) (a110 : Int) : Instr.fill (fun i => some (i * 1, 1)) ((Array.range (2 * 1)).map (((.int .i8 0) : Value).cells[· % ((.int .i8 0) : Value).cells.size]!)) [(0, .int .i8 a109), (1, .int .i8 a110)] = some ([.int .i8 a109, .int .i8 a110] : List Value).toArray := by kernel_rfl
theorem bs_24_6 (a111 : Int) (a112 : Int) (a113 : Int) (a114 : Int) (a115 : Int) (a116 : Int) : Instr.fill (fun i => some (i * 1, 1)) ((Array.range (6 * 1)).map (((.int .i8 0) : Value).cells[· % ((.int .i8 0) : Value).cells.size]!)) [(0, .int .i8 a111), (1, .int .i8 a112), (2, .int .i8 a113), (3, .int .i8 a114), (4, .int .i8 a115), (5, .int .i8 a116)] = some ([.int .i8 a111, .int .i8 a112, .int .i8 a113, .int .i8 a114, .int .i8 a115, .int .i8 a116] : List Value).toArray := by kernel_rfl
theorem bs_27_1 (a118 : Int) (a119 : Int) : Instr.fill (fun i => some (i * 2, 2)) ((Array.range (1 * 2)).map (((.agg #[(.int .i64 0), (.int .i64 0)]) : Value).cells[· % ((.agg #[(.int .i64 0), (.int .i64 0)]) : Value).cells.size]!)) [(0, .agg #[.int .i64 a118, .int .i64 a119])] = some ([.int .i64 a118, .int .i64 a119] : List Value).toArray := by kernel_rfl
theorem bs_28_1 (A121 : Option Addr) (m121 c121 : Nat) (A122 : Option Addr) (m122 c122 : Nat) (a124 : Int) (a125 : Int) (A126 : Option Addr) (m126 c126 : Nat) (a128 : Int) (a129 : Int) (A130 : Option Addr) (m130 c130 : Nat) (a132 : Int) (a133 : Int) (A134 : Option Addr) (m134 c134 : Nat) (a136 : Int) (a137 : Int) (A138 : Option Addr) (m138 c138 : Nat) (a140 : Int) (a141 : Int) (A142 : Option Addr) (m142 c142 : Nat) (a144 : Int) (a145 : Int) (A146 : Option Addr) (m146 c146 : Nat) (a148 : Int) (a149 : Int) (A150 : Option Addr) (m150 c150 : Nat) (a152 : Int) (a153 : Int) (a154 : Int) (a155 : Int) (a156 : Int) (a157 : Int) (a158 : Int) : Instr.fill (fun i => some (i * 30, 30)) ((Array.range (1 * 30)).map (((.agg #[(.slice none 0 0), (.slice none 0 0), (.int .i64 0), (.int .i64 0), (.slice none 0 0), (.int .i64 0), (.int .i64 0), (.slice none 0 0), (.int .i64 0), (.int .i64 0), (.slice none 0 0), (.int .i64 0), (.int .i64 0), (.slice none 0 0), (.int .i64 0), (.int .i64 0), (.slice none 0 0), (.int .i64 0), (.int .i64 0), (.slice none 0 0), (.int .i64 0), (.int .i64 0), (.slice none 0 0), (.int .i64 0), (.int .i64 0), (.int .i64 0), (.int .i64 0), (.int .i64 0), (.int .i64 0), (.int .i64 0)]) : Value).cells[· % ((.agg #[(.slice none 0 0), (.slice none 0 0), (.int .i64 0), (.int .i64 0), (.slice none 0 0), (.int .i64 0), (.int .i64 0), (.slice none 0 0), (.int .i64 0), (.int .i64 0), (.slice none 0 0), (.int .i64 0), (.int .i64 0), (.slice none 0 0), (.int .i64 0), (.int .i64 0), (.slice none 0 0), (.int .i64 0), (.int .i64 0), (.slice none 0 0), (.int .i64 0), (.int .i64 0), (.slice none 0 0), (.int .i64 0), (.int .i64 0), (.int .i64 0), (.int .i64 0), (.int .i64 0), (.int .i64 0), (.int .i64 0)]) : Value).cells.size]!)) [(0, .agg #[.slice A121 m121 c121, .slice A122 m122 c122, .int .i64 a124, .int .i64 a125, .slice A126 m126 c126, .int .i64 a128, .int .i64 a129, .slice A130 m130 c130, .int .i64 a132, .int .i64 a133, .slice A134 m134 c134, .int .i64 a136, .int .i64 a137, .slice A138 m138 c138, .int .i64 a140, .int .i64 a141, .slice A142 m142 c142, .int .i64 a144, .int .i64 a145, .slice A146 m146 c146, .int .i64 a148, .int .i64 a149, .slice A150 m150 c150, .int .i64 a152, .int .i64 a153, .int .i64 a154, .int .i64 a155, .int .i64 a156, .int .i64 a157, .int .i64 a158])] = some ([.slice A121 m121 c121, .slice A122 m122 c122, .int .i64 a124, .int .i64 a125, .slice A126 m126 c126, .int .i64 a128, .int .i64 a129, .slice A130 m130 c130, .int .i64 a132, .int .i64 a133, .slice A134 m134 c134, .int .i64 a136, .int .i64 a137, .slice A138 m138 c138, .int .i64 a140, .int .i64 a141, .slice A142 m142 c142, .int .i64 a144, .int .i64 a145, .slice A146 m146 c146, .int .i64 a148, .int .i64 a149, .slice A150 m150 c150, .int .i64 a152, .int .i64 a153, .int .i64 a154, .int .i64 a155, .int .i64 a156, .int .i64 a157, .int .i64 a158] : List Value).toArray := by kernel_rfl
theorem bs_29_1 (a160 : Int) (a161 : Int) (A162 : Option Addr) (m162 c162 : Nat) : Instr.fill (fun i => some (i * 3, 3)) ((Array.range (1 * 3)).map (((.agg #[(.int .i64 0), (.int .i64 0), (.slice none 0 0)]) : Value).cells[· % ((.agg #[(.int .i64 0), (.int .i64 0), (.slice none 0 0)]) : Value).cells.size]!)) [(0, .agg #[.int .i64 a160, .int .i64 a161, .slice A162 m162 c162])] = some ([.int .i64 a160, .int .i64 a161, .slice A162 m162 c162] : List Value).toArray := by kernel_rfl
theorem bs_36_1 (a163 : Int) : Instr.fill (fun i => some (i * 1, 1)) ((Array.range (1 * 1)).map (((.int .i64 0) : Value).cells[· % ((.int .i64 0) : Value).cells.size]!)) [(0, .int .i64 a163)] = some ([.int .i64 a163] : List Value).toArray := by kernel_rfl
theorem bs_36_2 (a164 : Int) (a165 : Int) : Instr.fill (fun i => some (i * 1, 1)) ((Array.range (2 * 1)).map (((.int .i64 0) : Value).cells[· % ((.int .i64 0) : Value).cells.size]!)) [(0, .int .i64 a164), (1, .int .i64 a165)] = some ([.int .i64 a164, .int .i64 a165] : List Value).toArray := by kernel_rfl
theorem bs_40_1 (A166 : Option Addr) (m166 c166 : Nat) : Instr.fill (fun i => some (i * 1, 1)) ((Array.range (1 * 1)).map (((.slice none 0 0) : Value).cells[· % ((.slice none 0 0) : Value).cells.size]!)) [(0, .slice A166 m166 c166)] = some ([.slice A166 m166 c166] : List Value).toArray := by kernel_rfl
theorem bs_46_1 (A167 : Option Addr) (m167 c167 : Nat) : Instr.fill (fun i => some (i * 1, 1)) ((Array.range (1 * 1)).map (((.slice none 0 0) : Value).cells[· % ((.slice none 0 0) : Value).cells.size]!)) [(0, .slice A167 m167 c167)] = some ([.slice A167 m167 c167] : List Value).toArray := by kernel_rfl
theorem bs_46_2 (A168 : Option Addr) (m168 c168 : Nat) (A169 : Option Addr) (m169 c169 : Nat) : Instr.fill (fun i => some (i * 1, 1)) ((Array.range (2 * 1)).map (((.slice none 0 0) : Value).cells[· % ((.slice none 0 0) : Value).cells.size]!)) [(0, .slice A168 m168 c168), (1, .slice A169 m169 c169)] = some ([.slice A168 m168 c168, .slice A169 m169 c169] : List Value).toArray := by kernel_rfl
theorem bs_47_1 (a170 : Int) : Instr.fill (fun i => some (i * 1, 1)) ((Array.range (1 * 1)).map (((.int .i64 0) : Value).cells[· % ((.int .i64 0) : Value).cells.size]!)) [(0, .int .i64 a170)] = some ([.int .i64 a170] : List Value).toArray := by kernel_rfl
theorem bs_47_2 (a171 : Int) (a172 : Int) : Instr.fill (fun i => some (i * 1, 1)) ((Array.range (2 * 1)).map (((.int .i64 0) : Value).cells[· % ((.int .i64 0) : Value).cells.size]!)) [(0, .int .i64 a171), (1, .int .i64 a172)] = some ([.int .i64 a171, .int .i64 a172] : List Value).toArray := by kernel_rfl
theorem bs_51_1 (a174 : Int) (a175 : Int) : Instr.fill (fun i => some (i * 2, 2)) ((Array.range (1 * 2)).map (((.agg #[(.int .i64 0), (.int .i64 0)]) : Value).cells[· % ((.agg #[(.int .i64 0), (.int .i64 0)]) : Value).cells.size]!)) [(0, .agg #[.int .i64 a174, .int .i64 a175])] = some ([.int .i64 a174, .int .i64 a175] : List Value).toArray := by kernel_rfl
theorem bs_64_1 (A176 : Option Addr) (m176 c176 : Nat) : Instr.fill (fun i => some (i * 1, 1)) ((Array.range (1 * 1)).map (((.slice none 0 0) : Value).cells[· % ((.slice none 0 0) : Value).cells.size]!)) [(0, .slice A176 m176 c176)] = some ([.slice A176 m176 c176] : List Value).toArray := by kernel_rfl
theorem bs_72_1 (a178 : Int) (a179 : Int) (a180 : Int) : Instr.fill (fun i => some (i * 3, 3)) ((Array.range (1 * 3)).map (((.agg #[(.int .i64 0), (.int .i64 0), (.int .i64 0)]) : Value).cells[· % ((.agg #[(.int .i64 0), (.int .i64 0), (.int .i64 0)]) : Value).cells.size]!)) [(0, .agg #[.int .i64 a178, .int .i64 a179, .int .i64 a180])] = some ([.int .i64 a178, .int .i64 a179, .int .i64 a180] : List Value).toArray := by kernel_rfl
theorem bs_125_7 (fn182 : Fn) (f182 c182 : Array Value) (a183 : Int) (a184 : Int) (fn186 : Fn) (f186 c186 : Array Value) (a187 : Int) (a188 : Int) (fn190 : Fn) (f190 c190 : Array Value) (a191 : Int) (a192 : Int) (fn194 : Fn) (f194 c194 : Array Value) (a195 : Int) (a196 : Int) (fn198 : Fn) (f198 c198 : Array Value) (a199 : Int) (a200 : Int) (fn202 : Fn) (f202 c202 : Array Value) (a203 : Int) (a204 : Int) (fn206 : Fn) (f206 c206 : Array Value) (a207 : Int) (a208 : Int) : Instr.fill (fun i => some (i * 3, 3)) ((Array.range (7 * 3)).map (((.agg #[.nilFunc, (.int .i64 0), (.int .i64 0)]) : Value).cells[· % ((.agg #[.nilFunc, (.int .i64 0), (.int .i64 0)]) : Value).cells.size]!)) [(0, .agg #[.func fn182 f182 c182, .int .i64 a183, .int .i64 a184]), (1, .agg #[.func fn186 f186 c186, .int .i64 a187, .int .i64 a188]), (2, .agg #[.func fn190 f190 c190, .int .i64 a191, .int .i64 a192]), (3, .agg #[.func fn194 f194 c194, .int .i64 a195, .int .i64 a196]), (4, .agg #[.func fn198 f198 c198, .int .i64 a199, .int .i64 a200]), (5, .agg #[.func fn202 f202 c202, .int .i64 a203, .int .i64 a204]), (6, .agg #[.func fn206 f206 c206, .int .i64 a207, .int .i64 a208])] = some ([.func fn182 f182 c182, .int .i64 a183, .int .i64 a184, .func fn186 f186 c186, .int .i64 a187, .int .i64 a188, .func fn190 f190 c190, .int .i64 a191, .int .i64 a192, .func fn194 f194 c194, .int .i64 a195, .int .i64 a196, .func fn198 f198 c198, .int .i64 a199, .int .i64 a200, .func fn202 f202 c202, .int .i64 a203, .int .i64 a204, .func fn206 f206 c206, .int .i64 a207, .int .i64 a208] : List Value).toArray := by kernel_rfl
theorem fd_23_1 (a209 : Int) (a210 : Int) (a211 : Int) (a212 : Int) (a213 : Int) (a214 : Int) (a215 : Int) (a216 : Int) (w : World) : (Instr.field 23 (.agg #[.int .i64 a209, .int .i64 a210, .int .i64 a211, .int .i64 a212, .int .i64 a213, .int .i64 a214, .int .i64 a215, .int .i64 a216]) 1).run Tryd.prog w = .ok (.int .i64 a210) w := by kernel_rfl
theorem fd_31_5 (a218 : Int) (a219 : Int) (a220 : Int) (a221 : Int) (a222 : Int) (a223 : Int) (a224 : Int) (a225 : Int) (a227 : Int) (a228 : Int) (A229 : Option Addr) (m229 c229 : Nat) (A230 : Option Addr) (m230 c230 : Nat) (A231 : Option Addr) (m231 c231 : Nat) (A232 : Option Addr) (m232 c232 : Nat) (a234 : Int) (a235 : Int) (A236 : Option Addr) (m236 c236 : Nat) (A237 : Option Addr) (m237 c237 : Nat) (w : World) : (Instr.field 31 (.agg #[.int .i64 a218, .int .i64 a219, .int .i64 a220, .int .i64 a221, .int .i64 a222, .int .i64 a223, .int .i64 a224, .int .i64 a225, .int .i64 a227, .int .i64 a228, .slice A229 m229 c229, .slice A230 m230 c230, .slice A231 m231 c231, .slice A232 m232 c232, .int .i64 a234, .int .i64 a235, .slice A236 m236 c236, .slice A237 m237 c237]) 5).run Tryd.prog w = .ok (.agg #[.int .i64 a234, .int .i64 a235, .slice A236 m236 c236]) w := by kernel_rfl
theorem fd_31_6 (a239 : Int) (a240 : Int) (a241 : Int) (a242 : Int) (a243 : Int) (a244 : Int) (a245 : Int) (a246 : Int) (a248 : Int) (a249 : Int) (A250 : Option Addr) (m250 c250 : Nat) (A251 : Option Addr) (m251 c251 : Nat) (A252 : Option Addr) (m252 c252 : Nat) (A253 : Option Addr) (m253 c253 : Nat) (a255 : Int) (a256 : Int) (A257 : Option Addr) (m257 c257 : Nat) (A258 : Option Addr) (m258 c258 : Nat) (w : World) : (Instr.field 31 (.agg #[.int .i64 a239, .int .i64 a240, .int .i64 a241, .int .i64 a242, .int .i64 a243, .int .i64 a244, .int .i64 a245, .int .i64 a246, .int .i64 a248, .int .i64 a249, .slice A250 m250 c250, .slice A251 m251 c251, .slice A252 m252 c252, .slice A253 m253 c253, .int .i64 a255, .int .i64 a256, .slice A257 m257 c257, .slice A258 m258 c258]) 6).run Tryd.prog w = .ok (.slice A258 m258 c258) w := by kernel_rfl
theorem eql_4 (a b : Bool) (w : World) : (binOp .eql 4 (.bool a) (.bool b)).run Tryd.prog w = .ok (.bool ((a == b))) w := by kernel_rfl
theorem eql_33 (a : Option Addr) (w : World) : (binOp .eql 33 (.pointer a) (.pointer none)).run Tryd.prog w = .ok (.bool (a.isNone)) w := by cases a <;> kernel_rfl
theorem eql_36 (a : Option Addr) (m c : Nat) (w : World) : (binOp .eql 36 (.slice a m c) (.slice none 0 0)).run Tryd.prog w = .ok (.bool (a.isNone)) w := by cases a <;> kernel_rfl
theorem eql_89 (fn : Fn) (a c : Array Value) (w : World) : (binOp .eql 89 (.func fn a c) .nilFunc).run Tryd.prog w = .ok (.bool false) w := by kernel_rfl
theorem neq_33 (a : Option Addr) (w : World) : (binOp .neq 33 (.pointer a) (.pointer none)).run Tryd.prog w = .ok (.bool (!a.isNone)) w := by cases a <;> kernel_rfl
theorem en_3 : Enters Tryd.prog 3 := enters_some Tryd.func3 (by kernel_rfl) (by kernel_rfl)
theorem en_4 : Enters Tryd.prog 4 := enters_some Tryd.func4 (by kernel_rfl) (by kernel_rfl)
theorem en_5 : Enters Tryd.prog 5 := enters_some Tryd.func5 (by kernel_rfl) (by kernel_rfl)
theorem en_6 : Enters Tryd.prog 6 := enters_some Tryd.func6 (by kernel_rfl) (by kernel_rfl)
theorem en_7 : Enters Tryd.prog 7 := enters_some Tryd.func7 (by kernel_rfl) (by kernel_rfl)
theorem en_8 : Enters Tryd.prog 8 := enters_some Tryd.func8 (by kernel_rfl) (by kernel_rfl)
theorem en_9 : Enters Tryd.prog 9 := enters_some Tryd.func9 (by kernel_rfl) (by kernel_rfl)
theorem en_10 : Enters Tryd.prog 10 := enters_some Tryd.func10 (by kernel_rfl) (by kernel_rfl)
theorem en_11 : Enters Tryd.prog 11 := enters_some Tryd.func11 (by kernel_rfl) (by kernel_rfl)
theorem en_12 : Enters Tryd.prog 12 := enters_some Tryd.func12 (by kernel_rfl) (by kernel_rfl)
theorem en_13 : Enters Tryd.prog 13 := enters_some Tryd.func13 (by kernel_rfl) (by kernel_rfl)
theorem en_14 : Enters Tryd.prog 14 := enters_some Tryd.func14 (by kernel_rfl) (by kernel_rfl)
theorem en_15 : Enters Tryd.prog 15 := enters_some Tryd.func15 (by kernel_rfl) (by kernel_rfl)
theorem en_16 : Enters Tryd.prog 16 := enters_some Tryd.func16 (by kernel_rfl) (by kernel_rfl)
theorem en_17 : Enters Tryd.prog 17 := enters_some Tryd.func17 (by kernel_rfl) (by kernel_rfl)
theorem en_18 : Enters Tryd.prog 18 := enters_some Tryd.func18 (by kernel_rfl) (by kernel_rfl)
theorem en_19 : Enters Tryd.prog 19 := enters_some Tryd.func19 (by kernel_rfl) (by kernel_rfl)
theorem en_20 : Enters Tryd.prog 20 := enters_some Tryd.func20 (by kernel_rfl) (by kernel_rfl)
theorem en_21 : Enters Tryd.prog 21 := enters_some Tryd.func21 (by kernel_rfl) (by kernel_rfl)
theorem en_22 : Enters Tryd.prog 22 := enters_some Tryd.func22 (by kernel_rfl) (by kernel_rfl)
theorem en_23 : Enters Tryd.prog 23 := enters_some Tryd.func23 (by kernel_rfl) (by kernel_rfl)
theorem en_24 : Enters Tryd.prog 24 := enters_some Tryd.func24 (by kernel_rfl) (by kernel_rfl)
theorem en_25 : Enters Tryd.prog 25 := enters_some Tryd.func25 (by kernel_rfl) (by kernel_rfl)
theorem en_26 : Enters Tryd.prog 26 := enters_some Tryd.func26 (by kernel_rfl) (by kernel_rfl)
theorem en_27 : Enters Tryd.prog 27 := enters_some Tryd.func27 (by kernel_rfl) (by kernel_rfl)
theorem en_28 : Enters Tryd.prog 28 := enters_some Tryd.func28 (by kernel_rfl) (by kernel_rfl)
theorem en_29 : Enters Tryd.prog 29 := enters_some Tryd.func29 (by kernel_rfl) (by kernel_rfl)
theorem en_30 : Enters Tryd.prog 30 := enters_some Tryd.func30 (by kernel_rfl) (by kernel_rfl)
theorem en_31 : Enters Tryd.prog 31 := enters_some Tryd.func31 (by kernel_rfl) (by kernel_rfl)
theorem en_32 : Enters Tryd.prog 32 := enters_some Tryd.func32 (by kernel_rfl) (by kernel_rfl)
theorem en_33 : Enters Tryd.prog 33 := enters_some Tryd.func33 (by kernel_rfl) (by kernel_rfl)
theorem en_34 : Enters Tryd.prog 34 := enters_some Tryd.func34 (by kernel_rfl) (by kernel_rfl)
theorem en_35 : Enters Tryd.prog 35 := enters_some Tryd.func35 (by kernel_rfl) (by kernel_rfl)
theorem en_36 : Enters Tryd.prog 36 := enters_some Tryd.func36 (by kernel_rfl) (by kernel_rfl)
theorem en_37 : Enters Tryd.prog 37 := enters_some Tryd.func37 (by kernel_rfl) (by kernel_rfl)
theorem en_38 : Enters Tryd.prog 38 := enters_some Tryd.func38 (by kernel_rfl) (by kernel_rfl)
theorem en_39 : Enters Tryd.prog 39 := enters_some Tryd.func39 (by kernel_rfl) (by kernel_rfl)
theorem en_40 : Enters Tryd.prog 40 := enters_some Tryd.func40 (by kernel_rfl) (by kernel_rfl)
theorem en_41 : Enters Tryd.prog 41 := enters_some Tryd.func41 (by kernel_rfl) (by kernel_rfl)
theorem en_42 : Enters Tryd.prog 42 := enters_some Tryd.func42 (by kernel_rfl) (by kernel_rfl)
theorem en_43 : Enters Tryd.prog 43 := enters_some Tryd.func43 (by kernel_rfl) (by kernel_rfl)
theorem en_44 : Enters Tryd.prog 44 := enters_some Tryd.func44 (by kernel_rfl) (by kernel_rfl)
theorem en_45 : Enters Tryd.prog 45 := enters_some Tryd.func45 (by kernel_rfl) (by kernel_rfl)
theorem en_46 : Enters Tryd.prog 46 := enters_some Tryd.func46 (by kernel_rfl) (by kernel_rfl)
theorem en_47 : Enters Tryd.prog 47 := enters_some Tryd.func47 (by kernel_rfl) (by kernel_rfl)
theorem en_48 : Enters Tryd.prog 48 := enters_some Tryd.func48 (by kernel_rfl) (by kernel_rfl)
theorem en_49 : Enters Tryd.prog 49 := enters_some Tryd.func49 (by kernel_rfl) (by kernel_rfl)
theorem en_50 : Enters Tryd.prog 50 := enters_some Tryd.func50 (by kernel_rfl) (by kernel_rfl)
theorem en_51 : Enters Tryd.prog 51 := enters_some Tryd.func51 (by kernel_rfl) (by kernel_rfl)
theorem en_52 : Enters Tryd.prog 52 := enters_some Tryd.func52 (by kernel_rfl) (by kernel_rfl)
theorem en_53 : Enters Tryd.prog 53 := enters_some Tryd.func53 (by kernel_rfl) (by kernel_rfl)
theorem en_54 : Enters Tryd.prog 54 := enters_some Tryd.func54 (by kernel_rfl) (by kernel_rfl)
theorem en_55 : Enters Tryd.prog 55 := enters_some Tryd.func55 (by kernel_rfl) (by kernel_rfl)
theorem en_56 : Enters Tryd.prog 56 := enters_some Tryd.func56 (by kernel_rfl) (by kernel_rfl)
theorem en_57 : Enters Tryd.prog 57 := enters_some Tryd.func57 (by kernel_rfl) (by kernel_rfl)
theorem en_58 : Enters Tryd.prog 58 := enters_some Tryd.func58 (by kernel_rfl) (by kernel_rfl)
theorem en_59 : Enters Tryd.prog 59 := enters_some Tryd.func59 (by kernel_rfl) (by kernel_rfl)
theorem en_60 : Enters Tryd.prog 60 := enters_some Tryd.func60 (by kernel_rfl) (by kernel_rfl)
theorem en_61 : Enters Tryd.prog 61 := enters_some Tryd.func61 (by kernel_rfl) (by kernel_rfl)
theorem en_62 : Enters Tryd.prog 62 := enters_some Tryd.func62 (by kernel_rfl) (by kernel_rfl)
theorem en_63 : Enters Tryd.prog 63 := enters_some Tryd.func63 (by kernel_rfl) (by kernel_rfl)
theorem en_64 : Enters Tryd.prog 64 := enters_some Tryd.func64 (by kernel_rfl) (by kernel_rfl)
theorem en_65 : Enters Tryd.prog 65 := enters_some Tryd.func65 (by kernel_rfl) (by kernel_rfl)
theorem en_66 : Enters Tryd.prog 66 := enters_some Tryd.func66 (by kernel_rfl) (by kernel_rfl)
theorem en_67 : Enters Tryd.prog 67 := enters_some Tryd.func67 (by kernel_rfl) (by kernel_rfl)
theorem en_68 : Enters Tryd.prog 68 := enters_some Tryd.func68 (by kernel_rfl) (by kernel_rfl)
theorem en_69 : Enters Tryd.prog 69 := enters_some Tryd.func69 (by kernel_rfl) (by kernel_rfl)
theorem en_70 : Enters Tryd.prog 70 := enters_some Tryd.func70 (by kernel_rfl) (by kernel_rfl)
theorem en_71 : Enters Tryd.prog 71 := enters_some Tryd.func71 (by kernel_rfl) (by kernel_rfl)
theorem en_72 : Enters Tryd.prog 72 := enters_some Tryd.func72 (by kernel_rfl) (by kernel_rfl)
theorem en_73 : Enters Tryd.prog 73 := enters_some Tryd.func73 (by kernel_rfl) (by kernel_rfl)
theorem en_74 : Enters Tryd.prog 74 := enters_some Tryd.func74 (by kernel_rfl) (by kernel_rfl)
theorem en_75 : Enters Tryd.prog 75 := enters_some Tryd.func75 (by kernel_rfl) (by kernel_rfl)
theorem en_76 : Enters Tryd.prog 76 := enters_some Tryd.func76 (by kernel_rfl) (by kernel_rfl)
theorem en_77 : Enters Tryd.prog 77 := enters_some Tryd.func77 (by kernel_rfl) (by kernel_rfl)
theorem en_78 : Enters Tryd.prog 78 := enters_some Tryd.func78 (by kernel_rfl) (by kernel_rfl)
theorem en_79 : Enters Tryd.prog 79 := enters_some Tryd.func79 (by kernel_rfl) (by kernel_rfl)
theorem en_80 : Enters Tryd.prog 80 := enters_some Tryd.func80 (by kernel_rfl) (by kernel_rfl)
theorem en_81 : Enters Tryd.prog 81 := enters_some Tryd.func81 (by kernel_rfl) (by kernel_rfl)
theorem en_82 : Enters Tryd.prog 82 := enters_some Tryd.func82 (by kernel_rfl) (by kernel_rfl)
theorem en_83 : Enters Tryd.prog 83 := enters_some Tryd.func83 (by kernel_rfl) (by kernel_rfl)
theorem en_84 : Enters Tryd.prog 84 := enters_some Tryd.func84 (by kernel_rfl) (by kernel_rfl)
theorem en_85 : Enters Tryd.prog 85 := enters_some Tryd.func85 (by kernel_rfl) (by kernel_rfl)
theorem en_86 : Enters Tryd.prog 86 := enters_some Tryd.func86 (by kernel_rfl) (by kernel_rfl)
theorem en_87 : Enters Tryd.prog 87 := enters_some Tryd.func87 (by kernel_rfl) (by kernel_rfl)
theorem en_88 : Enters Tryd.prog 88 := enters_some Tryd.func88 (by kernel_rfl) (by kernel_rfl)
theorem en_89 : Enters Tryd.prog 89 := enters_some Tryd.func89 (by kernel_rfl) (by kernel_rfl)
theorem en_90 : Enters Tryd.prog 90 := enters_some Tryd.func90 (by kernel_rfl) (by kernel_rfl)
end Go.Proofs.YtlmddncoeikfjaaDoor
