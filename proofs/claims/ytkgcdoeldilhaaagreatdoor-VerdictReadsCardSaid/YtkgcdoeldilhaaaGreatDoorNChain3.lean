/- The walks chained: what the law returns, in terms of the specification. No condition. -/
import Derived.WalkKit
import Derived.ProofKit
import Derived.OpenShut
import Derived.ShutString
import Derived.ChangeOld
import Derived.Below
import Derived.Test.YtkgcdoeldilhaaaGreatDoorRows
import Derived.Test.YtkgcdoeldilhaaaGreatDoorNWalksAa
import Derived.Test.YtkgcdoeldilhaaaGreatDoorNWalksAb
import Derived.Test.YtkgcdoeldilhaaaGreatDoorNWalksAc
import Derived.Test.YtkgcdoeldilhaaaGreatDoorNWalksAd
import Derived.Test.YtkgcdoeldilhaaaGreatDoorNWalksAe
import Derived.Test.YtkgcdoeldilhaaaGreatDoorNWalksL3a
import Derived.Test.YtkgcdoeldilhaaaGreatDoorNWalksL3b
import Derived.Test.YtkgcdoeldilhaaaGreatDoorNV29
import Derived.Test.YtkgcdoeldilhaaaGreatDoorOp
import Derived.Test.YtkgcdoeldilhaaaGreatDoorNXS
set_option linter.all false
namespace Go.Proofs.YtkgcdoeldilhaaaGreatDoor
open Go Go.Sv Go.Op Go.ChangeShapes Go.WideShapes Go.ChangeAt Go.RowKit
theorem s70 : S70 := x70
theorem s84 : S84 := x84
theorem s78 : S78 := x78
theorem s51 : S51 := C51 v51
theorem s85 : S85 := C85 v85
theorem s69 : S69 := C69 s85 v69
theorem s113 : S113 := C113 s85 v113
theorem s107 : S107 := C107 s113 v107
theorem s68 : S68 := C68 s84 v68
theorem s44 : S44 := C44 s68 v44
theorem s45 : S45 := C45 s69 s70 v45
theorem s17 : S17 := C17 s44 s45 v17
theorem s24 : S24 := C24 s51 v24
theorem s100 : S100 := C100 s107 v100
theorem s87 : S87 := C87 s100 v87
theorem s55 : S55 := C55 s78 v55
theorem s57 : S57 := C57 v57
theorem s52 : S52 := C52 s57 v52
theorem s103 : S103 := C103 v103
theorem s112 : S112 := C112 s103 v112
theorem s104 : S104 := C104 s112 v104
theorem s91 : S91 := C91 s103 v91
theorem s83 : S83 := C83 v83
theorem s54 : S54 := C54 v54
theorem s67 : S67 := C67 v67
theorem s92 : S92 := C92 s104 v92
theorem s80 : S80 := C80 s91 s92 v80
theorem s93 : S93 := C93 v93
theorem s105_93 : S105_93 := C105_93 s93 v105_93
theorem s94_93 : S94_93 := C94_93 s105_93 v94_93
theorem s81 : S81 := C81 s94_93 v81
theorem s61 : S61 := C61 s80 s81 v61
theorem s60 : S60 := C60 s61 v60
theorem s59_60 : S59_60 := C59_60 s60 v59_60
theorem s36 : S36 := C36 s59_60 v36
theorem s75 : S75 := C75 v75
theorem s73 : S73 := C73 s75 s87 v73
theorem s101 : S101 := C101 v101
theorem s89 : S89 := C89 s101 v89
theorem s88 : S88 := C88 s75 s89 v88
theorem s74 : S74 := C74 s73 s88 v74
theorem s50 : S50 := C50 s73 s74 s75 v50
theorem s21 : S21 := C21 s17 s50 v21
theorem s77 : S77 := C77 v77
theorem s76 : S76 := C76 s52 s83 v76
theorem s53 : S53 := C53 s52 s76 s77 v53
theorem s28 : S28 := C28 s24 s53 v28
theorem s79 : S79 := C79 s55 v79
theorem s56 : S56 := C56 s55 s79 v56
theorem s33 : S33 := C33 s36 s56 v33
theorem s66 : S66 := C66 s67 v66
theorem s65_66 : S65_66 := C65_66 s66 v65_66
theorem s42 : S42 := C42 s65_66 v42
theorem s30 : S30 := C30 s54 v30
theorem s71 : S71 := C71 s87 v71
theorem s25 : S25 := C25 s52 v25
theorem s23 : S23 := C23 v23
theorem s41 : S41 := C41 v41
theorem s29 : S29 := C29 v29
theorem s43 : S43 := C43 (fun _ => v43)
theorem s15 : S15 := C15 s43 v15
theorem s16 : S16 := C16 v16
theorem s62 : S62 := C62 v62
theorem s72_62 : S72_62 := C72_62 s62 v72_62
theorem s48_62 : S48_62 := C48_62 s72_62 v48_62
theorem s38 : S38 := C38 s48_62 v38
theorem s40 : S40 := C40 v40
theorem s37 : S37 := C37 v37
theorem s12 : S12 := C12 s15 s36 s37 s38 v12
theorem s14 : S14 := C14 s41 s42 v14
theorem s8 : S8 := C8 s29 s30 v8
theorem s32 : S32 := C32 s55 v32
theorem s10 : S10 := C10 s12 s15 s32 s33 v10
theorem s22 : S22 := C22 v22
theorem s47 : S47 := C47 s71 v47
theorem s49 : S49 := C49 v49
theorem s72_49 : S72_49 := C72_49 s49 v72_49
theorem s48_49 : S48_49 := C48_49 s72_49 v48_49
theorem s19 : S19 := C19 s22 s47 s48_49 v19
theorem s46 : S46 := C46 v46
theorem s18 : S18 := C18 s22 s43 s46 s47 v18
theorem s20 : S20 := C20 s17 v20
theorem s27 : S27 := C27 v27
theorem s26 : S26 := C26 s25 s40 v26
theorem s6 : S6 := C6 s17 s18 s19 s20 s21 s22 v6
theorem s7 : S7 := C7 s16 s23 s24 s25 s26 s27 s28 v7
theorem s5 : S5 := C5 s10 s12 s14 s15 s6 (fun _ => v5)
theorem own : ownKnob Tryz.prog.godebug = none := by kernel_rfl
theorem laidOut : laidOutB Tryz.prog = true := by kernel_rfl
end Go.Proofs.YtkgcdoeldilhaaaGreatDoor
