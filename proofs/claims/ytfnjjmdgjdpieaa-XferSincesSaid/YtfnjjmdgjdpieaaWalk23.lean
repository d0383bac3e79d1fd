/- What functions of the program answer, read off. -/
import Derived.Test.YtfnjjmdgjdpieaaWalk22
import Derived.KernelRfl
import Derived.WalkKit
import Derived.ProofKit
import Derived.OpenShut
import Derived.ShutString
import Derived.ChangeOld
set_option linter.unusedSimpArgs false
set_option linter.unusedVariables false
namespace Go.Mir
open Go Go.RowKit Go.Proofs
attribute [local congr] Ev.congr EvC.congr EvW.congr Br.congr Ms.congr
set_option maxRecDepth 100000
noncomputable def K0 : Known := ⟨Try.prog, [], [], []⟩
theorem ok0 : K0.OK := Known.OK.none _
theorem follows : Try.prog.follows .mixedOrders = true := by kernel_rfl
noncomputable def K1 : Known := K0.pure 71 FisLab
theorem ok1 : K1.OK := Known.add ok0 follows (fun i => if i = 6 then some [0, 3] else  none) ⟨Try.func71, rfl, by kernel_rfl, by kernel_rfl⟩ (n := 1) (by decide) (fun _ => rfl) [] false (fun s hp => runIsLab (K0.cx (fun i => if i = 6 then some [0, 3] else  none)) rfl rfl rfl (s) hp)
noncomputable def K2 : Known := K1.pure 58 FSplit
theorem ok2 : K2.OK := Known.add ok1 follows (fun i => if i = 8 then some [0, 4, 5, 6] else  none) ⟨Try.func58, rfl, by kernel_rfl, by kernel_rfl⟩ (n := 1) (by decide) (fun _ => rfl) [0] false (fun s hp => runSplit (K1.cx (fun i => if i = 8 then some [0, 4, 5, 6] else  none)) rfl rfl rfl rfl (s) hp)
noncomputable def K3 : Known := K2.pure 62 FSame
theorem ok3 : K3.OK := Known.add ok2 follows (fun i => if i = 2 then some [0, 1, 5] else  none) ⟨Try.func62, rfl, by kernel_rfl, by kernel_rfl⟩ (n := 2) (by decide) (fun _ => rfl) [] false (fun s hp => runSame (K2.cx (fun i => if i = 2 then some [0, 1, 5] else  none)) rfl rfl rfl (s.1) (s.2) hp)
noncomputable def K4 : Known := K3.pure 83 FText
theorem ok4 : K4.OK := Known.add ok3 follows (fun _ => none) ⟨Try.func83, rfl, by kernel_rfl, by kernel_rfl⟩ (n := 2) (by decide) (fun _ => rfl) [] false (fun s hp => runText (K3.cx (fun _ => none)) rfl rfl (s.1) (s.2))
noncomputable def K5 : Known := K4.pure 38 FValid
theorem ok5 : K5.OK := Known.add ok4 follows (fun _ => none) ⟨Try.func38, rfl, by kernel_rfl, by kernel_rfl⟩ (n := 1) (by decide) (fun _ => rfl) [] false (fun s hp => runValid (K4.cx (fun _ => none)) rfl rfl rfl (s) hp)
noncomputable def K6 : Known := K5.pure 64 FLabels
theorem ok6 : K6.OK := Known.add ok5 follows (fun _ => none) ⟨Try.func64, rfl, by kernel_rfl, by kernel_rfl⟩ (n := 1) (by decide) (fun _ => rfl) [0] false (fun s hp => runLabels (K5.cx (fun _ => none)) rfl rfl rfl (s) hp)
noncomputable def K7 : Known := K6.pure 44 FUnder
theorem ok7 : K7.OK := Known.add ok6 follows (fun _ => none) ⟨Try.func44, rfl, by kernel_rfl, by kernel_rfl⟩ (n := 2) (by decide) (fun _ => rfl) [] false (fun s hp => runUnder (K6.cx (fun _ => none)) rfl rfl rfl rfl (s.1) (s.2) hp)
noncomputable def K8 : Known := K7.pure 79 FCmpN
theorem ok8 : K8.OK := Known.add ok7 follows (fun _ => none) ⟨Try.func79, rfl, by kernel_rfl, by kernel_rfl⟩ (n := 2) (by decide) (fun _ => rfl) [] false (fun s hp => runCmpN (K7.cx (fun _ => none)) rfl rfl rfl rfl rfl rfl rfl rfl (s.1) (s.2) hp)
noncomputable def K9 : Known := K8.pure 74 FVAdr
theorem ok9 : K9.OK := Known.add ok8 follows (fun _ => none) ⟨Try.func74, rfl, by kernel_rfl, by kernel_rfl⟩ (n := 1) (by decide) (fun _ => rfl) [] false (fun s hp => runVAdr (K8.cx (fun _ => none)) rfl rfl (s))
noncomputable def K10 : Known := K9.pure 72 FMnem
theorem ok10 : K10.OK := Known.add ok9 follows (fun _ => none) ⟨Try.func72, rfl, by kernel_rfl, by kernel_rfl⟩ (n := 1) (by decide) (fun _ => rfl) [] false (fun s hp => runMnem (K9.cx (fun _ => none)) rfl rfl (s))
noncomputable def K11 : Known := K10.pure 59 FKnown
theorem ok11 : K11.OK := Known.add ok10 follows (fun _ => none) ⟨Try.func59, rfl, by kernel_rfl, by kernel_rfl⟩ (n := 1) (by decide) (fun _ => rfl) [] false (fun s hp => runKnown (K10.cx (fun _ => none)) rfl rfl rfl (s))
noncomputable def K12 : Known := K11.pure 63 FSingle
theorem ok12 : K12.OK := Known.add ok11 follows (fun _ => none) ⟨Try.func63, rfl, by kernel_rfl, by kernel_rfl⟩ (n := 1) (by decide) (fun _ => rfl) [] false (fun s hp => runSingle (K11.cx (fun _ => none)) rfl rfl (s))
noncomputable def K13 : Known := K12.pure 73 FUsed
theorem ok13 : K13.OK := Known.add ok12 follows (fun _ => none) ⟨Try.func73, rfl, by kernel_rfl, by kernel_rfl⟩ (n := 2) (by decide) (fun _ => rfl) [] false (fun s hp => runUsed (K12.cx (fun _ => none)) rfl rfl (s.1) (s.2))
noncomputable def K14 : Known := K13.pure 76 FIn
theorem ok14 : K14.OK := Known.add ok13 follows (fun _ => none) ⟨Try.func76, rfl, by kernel_rfl, by kernel_rfl⟩ (n := 2) (by decide) (fun _ => rfl) [] false (fun s hp => runIn (K13.cx (fun _ => none)) rfl rfl (s.1) (s.2))
noncomputable def K15 : Known := K14.pure 75 FHost
theorem ok15 : K15.OK := Known.add ok14 follows (fun _ => none) ⟨Try.func75, rfl, by kernel_rfl, by kernel_rfl⟩ (n := 1) (by decide) (fun _ => rfl) [] false (fun s hp => runHost (K14.cx (fun _ => none)) rfl rfl rfl (s) hp)
noncomputable def K16 : Known := K15.pure 77 FTextB
theorem ok16 : K16.OK := Known.add ok15 follows (fun _ => none) ⟨Try.func77, rfl, by kernel_rfl, by kernel_rfl⟩ (n := 1) (by decide) (fun _ => rfl) [] false (fun s hp => runTextB (K15.cx (fun _ => none)) rfl rfl (s))
noncomputable def K17 : Known := K16.pure 47 FSValid
theorem ok17 : K17.OK := Known.add ok16 follows (fun _ => none) ⟨Try.func47, rfl, by kernel_rfl, by kernel_rfl⟩ (n := 1) (by decide) (fun _ => rfl) [] false (fun s hp => runSValid (K16.cx (fun _ => none)) rfl rfl (s))
noncomputable def K18 : Known := K17.pure 53 FSCmp
theorem ok18 : K18.OK := Known.add ok17 follows (fun _ => none) ⟨Try.func53, rfl, by kernel_rfl, by kernel_rfl⟩ (n := 2) (by decide) (fun _ => rfl) [] false (fun s hp => runSCmp (K17.cx (fun _ => none)) rfl rfl rfl (s.1) (s.2))
noncomputable def K19 : Known := K18.pure 29 FSAfter
theorem ok19 : K19.OK := Known.add ok18 follows (fun _ => none) ⟨Try.func29, rfl, by kernel_rfl, by kernel_rfl⟩ (n := 2) (by decide) (fun _ => rfl) [] false (fun s hp => runSAfter (K18.cx (fun _ => none)) rfl rfl rfl (s.1) (s.2))
noncomputable def K20 : Known := K19.pure 57 FSValid
theorem ok20 : K20.OK := Known.add ok19 follows (fun _ => none) ⟨Try.func57, rfl, by kernel_rfl, by kernel_rfl⟩ (n := 1) (by decide) (fun _ => rfl) [] false (fun s hp => runSValidP (K19.cx (fun _ => none)) rfl rfl (s))
noncomputable def K21 : Known := K20.pure 34 FSCmp
theorem ok21 : K21.OK := Known.add ok20 follows (fun _ => none) ⟨Try.func34, rfl, by kernel_rfl, by kernel_rfl⟩ (n := 2) (by decide) (fun _ => rfl) [] false (fun s hp => runSCmpP (K20.cx (fun _ => none)) rfl rfl rfl (s.1) (s.2))
noncomputable def K22 : Known := K21.pure 20 FSAfter
theorem ok22 : K22.OK := Known.add ok21 follows (fun _ => none) ⟨Try.func20, rfl, by kernel_rfl, by kernel_rfl⟩ (n := 2) (by decide) (fun _ => rfl) [] false (fun s hp => runSAfterP (K21.cx (fun _ => none)) rfl rfl rfl (s.1) (s.2))
noncomputable def K23 : Known := K22.pure 78 FAll
theorem ok23 : K23.OK := Known.add ok22 follows (fun i => if i = 2 then some [0, 3] else  none) ⟨Try.func78, rfl, by kernel_rfl, by kernel_rfl⟩ (n := 1) (by decide) (fun _ => rfl) [] false (fun s hp => runAll (K22.cx (fun i => if i = 2 then some [0, 3] else  none)) rfl rfl rfl rfl (s))
noncomputable def K24 : Known := K23.pure 60 FVD
theorem ok24 : K24.OK := Known.add ok23 follows (fun _ => none) ⟨Try.func60, rfl, by kernel_rfl, by kernel_rfl⟩ (n := 2) (by decide) (fun _ => rfl) [] false (fun s hp => runVD (K23.cx (fun _ => none)) rfl rfl rfl rfl rfl rfl rfl rfl rfl rfl rfl rfl rfl rfl rfl rfl rfl rfl rfl rfl (s.1) (s.2) hp)
noncomputable def K25 : Known := K24.pure 87 FNum
theorem ok25 : K25.OK := Known.add ok24 follows (fun i => if i = 3 then some [0, 5, 6] else if i = 7 then some [0, 5, 6, 7, 8] else  none) ⟨Try.func87, rfl, by kernel_rfl, by kernel_rfl⟩ (n := 2) (by decide) (fun _ => rfl) [] false (fun s hp => runNum (K24.cx (fun i => if i = 3 then some [0, 5, 6] else if i = 7 then some [0, 5, 6, 7, 8] else  none)) rfl rfl rfl rfl (s.1) (s.2) hp)
noncomputable def K26 : Known := K25.pure 89 FOct
theorem ok26 : K26.OK := Known.add ok25 follows (fun i => if i = 3 then some [0, 5, 6] else if i = 7 then some [0, 5, 6, 7, 8] else  none) ⟨Try.func89, rfl, by kernel_rfl, by kernel_rfl⟩ (n := 2) (by decide) (fun _ => rfl) [] false (fun s hp => runOct (K25.cx (fun i => if i = 3 then some [0, 5, 6] else if i = 7 then some [0, 5, 6, 7, 8] else  none)) rfl rfl rfl rfl (s.1) (s.2) hp)
noncomputable def K27 : Known := K26.pure 86 FWN
theorem ok27 : K27.OK := Known.add ok26 follows (fun i => if i = 4 then some [3, 4, 5] else  none) ⟨Try.func86, rfl, by kernel_rfl, by kernel_rfl⟩ (n := 1) (by decide) (fun _ => rfl) [] false (fun s hp => runWN (K26.cx (fun i => if i = 4 then some [3, 4, 5] else  none)) rfl rfl rfl rfl rfl rfl rfl (s) hp)
noncomputable def K28 : Known := K27.pure 88 FBm
theorem ok28 : K28.OK := Known.add ok27 follows (fun i => if i = 4 then some [0, 3, 4, 5] else if i = 8 then some [0, 3, 4, 5, 6, 7] else  none) ⟨Try.func88, rfl, by kernel_rfl, by kernel_rfl⟩ (n := 1) (by decide) (fun _ => rfl) [] false (fun s hp => runBm (K27.cx (fun i => if i = 4 then some [0, 3, 4, 5] else if i = 8 then some [0, 3, 4, 5, 6, 7] else  none)) rfl rfl rfl rfl (s))
noncomputable def K29 : Known := K28.pure 85 FWA
theorem ok29 : K29.OK := Known.add ok28 follows (fun _ => none) ⟨Try.func85, rfl, by kernel_rfl, by kernel_rfl⟩ (n := 1) (by decide) (fun _ => rfl) [] false (fun s hp => runWA (K28.cx (fun _ => none)) rfl rfl rfl rfl rfl rfl (s))
noncomputable def K30 : Known := K29.pure 84 FWD
theorem ok30 : K30.OK := Known.add ok29 follows (fun _ => none) ⟨Try.func84, rfl, by kernel_rfl, by kernel_rfl⟩ (n := 2) (by decide) (fun _ => rfl) [] false (fun s hp => runWD (K29.cx (fun _ => none)) rfl rfl rfl rfl rfl rfl rfl rfl rfl rfl rfl rfl rfl rfl (s.1) (s.2) hp)
noncomputable def K31 : Known := K30.pure 81 FCD
theorem ok31 : K31.OK := Known.add ok30 follows (fun _ => none) ⟨Try.func81, rfl, by kernel_rfl, by kernel_rfl⟩ (n := 3) (by decide) (fun _ => rfl) [] false (fun s hp => runCD (K30.cx (fun _ => none)) rfl rfl rfl (s.1) (s.2.1) (s.2.2) hp)
noncomputable def K32 : Known := K31.pure 40 FVR
theorem ok32 : K32.OK := Known.add ok31 follows (fun _ => none) ⟨Try.func40, rfl, by kernel_rfl, by kernel_rfl⟩ (n := 1) (by decide) (fun _ => rfl) [] false (fun s hp => runVR (K31.cx (fun _ => none)) rfl rfl rfl rfl rfl (s) hp)
noncomputable def K33 : Known := K32.pure 80 FNumC
theorem ok33 : K33.OK := Known.add ok32 follows (fun _ => none) ⟨Try.func80, rfl, by kernel_rfl, by kernel_rfl⟩ (n := 2) (by decide) (fun _ => rfl) [] false (fun s hp => runNumC (K32.cx (fun _ => none)) rfl rfl (s.1) (s.2))
noncomputable def K34 : Known := K33.pure 61 FFirst
theorem ok34 : K34.OK := Known.add ok33 follows (fun _ => none) ⟨Try.func61, rfl, by kernel_rfl, by kernel_rfl⟩ (n := 2) (by decide) (fun _ => rfl) [] false (fun s hp => runFirst (K33.cx (fun _ => none)) rfl rfl rfl rfl rfl (s.1) (s.2) hp)
noncomputable def K35 : Known := K34.pure 66 FCmpR
theorem ok35 : K35.OK := Known.add ok34 follows (fun _ => none) ⟨Try.func66, rfl, by kernel_rfl, by kernel_rfl⟩ (n := 2) (by decide) (fun _ => rfl) [] false (fun s hp => runCmpR (K34.cx (fun _ => none)) rfl rfl rfl rfl (s.1) (s.2) hp)
noncomputable def K36 : Known := K35.pure 41 FEq
theorem ok36 : K36.OK := Known.add ok35 follows (fun i => if i = 4 then some [0, 1, 5] else  none) ⟨Try.func41, rfl, by kernel_rfl, by kernel_rfl⟩ (n := 2) (by decide) (fun _ => rfl) [] false (fun s hp => runEq (K35.cx (fun i => if i = 4 then some [0, 1, 5] else  none)) rfl rfl rfl (s.1) (s.2) hp)
noncomputable def K37 : Known := K36.pure 39 FFind
theorem ok37 : K37.OK := Known.add ok36 follows (fun i => if i = 3 then some [0, 1, 2, 7, 8] else  none) ⟨Try.func39, rfl, by kernel_rfl, by kernel_rfl⟩ (n := 3) (by decide) (fun _ => rfl) [0] false (fun s hp => runFind (K36.cx (fun i => if i = 3 then some [0, 1, 2, 7, 8] else  none)) rfl rfl rfl (s.1) (s.2.1) (s.2.2) hp)
noncomputable def K38 : Known := K37.pure 42 FSort
theorem ok38 : K38.OK := Known.add ok37 follows (fun i => if i = 3 then some [0, 3, 4] else if i = 6 then some [0, 3, 4, 5] else  none) ⟨Try.func42, rfl, by kernel_rfl, by kernel_rfl⟩ (n := 1) (by decide) (fun _ => rfl) [0] false (fun s hp => runSort (K37.cx (fun i => if i = 3 then some [0, 3, 4] else if i = 6 then some [0, 3, 4, 5] else  none)) rfl rfl rfl rfl rfl rfl (s) hp)
noncomputable def K39 : Known := K38.pure 65 FBelow
theorem ok39 : K39.OK := Known.add ok38 follows (fun _ => none) ⟨Try.func65, rfl, by kernel_rfl, by kernel_rfl⟩ (n := 2) (by decide) (fun _ => rfl) [] false (fun s hp => runBelow (K38.cx (fun _ => none)) rfl rfl rfl (s.1) (s.2) hp)
noncomputable def K40 : Known := K39.pure 43 FHas
theorem ok40 : K40.OK := Known.add ok39 follows (fun _ => none) ⟨Try.func43, rfl, by kernel_rfl, by kernel_rfl⟩ (n := 3) (by decide) (fun _ => rfl) [] false (fun s hp => runHas (K39.cx (fun _ => none)) rfl rfl rfl (s.1) (s.2.1) (s.2.2) hp)
noncomputable def K41 : Known := K40.pure 26 FSerZ
theorem ok41 : K41.OK := Known.add ok40 follows (fun _ => none) ⟨Try.func26, rfl, by kernel_rfl, by kernel_rfl⟩ (n := 1) (by decide) (fun _ => rfl) [] false (fun s hp => runSerZ (K40.cx (fun _ => none)) rfl rfl rfl (s) hp)
noncomputable def K42 : Known := K41.pure 45 FBes
theorem ok42 : K42.OK := Known.add ok41 follows (fun i => if i = 2 then some [2, 3, 5] else  none) ⟨Try.func45, rfl, by kernel_rfl, by kernel_rfl⟩ (n := 2) (by decide) (fun _ => rfl) [] false (fun s hp => runBes (K41.cx (fun i => if i = 2 then some [2, 3, 5] else  none)) rfl rfl rfl rfl (s.1) (s.2) hp)
noncomputable def K43 : Known := K42.pure 46 FPl
theorem ok43 : K43.OK := Known.add ok42 follows (fun i => if i = 5 then some [2, 3, 6] else  none) ⟨Try.func46, rfl, by kernel_rfl, by kernel_rfl⟩ (n := 2) (by decide) (fun _ => rfl) [] false (fun s hp => runPl (K42.cx (fun i => if i = 5 then some [2, 3, 6] else  none)) rfl rfl rfl rfl rfl rfl (s.1) (s.2) hp)
noncomputable def K44 : Known := K43.pure 24 FChkZ
theorem ok44 : K44.OK := Known.add ok43 follows (fun i => if i = 6 then some [1, 3] else if i = 11 then some [1, 4] else if i = 20 then some [1, 5] else  none) ⟨Try.func24, rfl, by kernel_rfl, by kernel_rfl⟩ (n := 1) (by decide) (fun _ => rfl) [] false (fun s hp => runChkZ (K43.cx (fun i => if i = 6 then some [1, 3] else if i = 11 then some [1, 4] else if i = 20 then some [1, 5] else  none)) rfl rfl rfl rfl rfl rfl rfl rfl rfl rfl rfl rfl rfl rfl rfl rfl rfl rfl rfl rfl rfl rfl rfl (s) hp)
noncomputable def K45 : Known := K44.pure 68 FHasL
theorem ok45 : K45.OK := Known.add ok44 follows (fun i => if i = 2 then some [0, 3, 5] else  none) ⟨Try.func68, rfl, by kernel_rfl, by kernel_rfl⟩ (n := 2) (by decide) (fun _ => rfl) [] false (fun s hp => runHasL (K44.cx (fun i => if i = 2 then some [0, 3, 5] else  none)) rfl rfl rfl (s.1) (s.2) hp)
noncomputable def K46 : Known := K45.pure 67 FAlike
theorem ok46 : K46.OK := Known.add ok45 follows (fun _ => none) ⟨Try.func67, rfl, by kernel_rfl, by kernel_rfl⟩ (n := 2) (by decide) (fun _ => rfl) [] false (fun s hp => runAlike (K45.cx (fun _ => none)) rfl rfl (s.1) (s.2))
noncomputable def K47 : Known := K46.pure 50 FWo
theorem ok47 : K47.OK := Known.add ok46 follows (fun i => if i = 3 then some [0, 1, 5, 6] else  none) ⟨Try.func50, rfl, by kernel_rfl, by kernel_rfl⟩ (n := 2) (by decide) (fun _ => rfl) [] false (fun s hp => runWo (K46.cx (fun i => if i = 3 then some [0, 1, 5, 6] else  none)) rfl rfl rfl rfl (s.1) (s.2) hp)
noncomputable def K48 : Known := K47.pure 49 FSrt
theorem ok48 : K48.OK := Known.add ok47 follows (fun i => if i = 2 then some [0, 3] else  none) ⟨Try.func49, rfl, by kernel_rfl, by kernel_rfl⟩ (n := 1) (by decide) (fun _ => rfl) [] false (fun s hp => runSrt (K47.cx (fun i => if i = 2 then some [0, 3] else  none)) rfl rfl rfl rfl rfl rfl rfl (s) hp)
noncomputable def K49 : Known := K48.pure 82 FOrd
theorem ok49 : K49.OK := Known.add ok48 follows (fun i => if i = 3 then some [0, 3, 4] else if i = 7 then some [0, 3, 4, 5] else  none) ⟨Try.func82, rfl, by kernel_rfl, by kernel_rfl⟩ (n := 1) (by decide) (fun _ => rfl) [] false (fun s hp => runOrd (K48.cx (fun i => if i = 3 then some [0, 3, 4] else if i = 7 then some [0, 3, 4, 5] else  none)) rfl rfl rfl rfl rfl rfl (s) hp)
noncomputable def K50 : Known := K49.pure 69 FBoth
theorem ok50 : K50.OK := Known.add ok49 follows (fun i => if i = 3 then some [0, 1, 5, 6] else if i = 7 then some [1, 5, 7] else  none) ⟨Try.func69, rfl, by kernel_rfl, by kernel_rfl⟩ (n := 2) (by decide) (fun _ => rfl) [] true (fun s hp => runBoth (K49.cx (fun i => if i = 3 then some [0, 1, 5, 6] else if i = 7 then some [1, 5, 7] else  none)) rfl rfl rfl rfl rfl (s.1) (s.2) hp)
noncomputable def K51 : Known := K50.pure 51 FSta
theorem ok51 : K51.OK := Known.add ok50 follows (fun i => if i = 3 then some [0, 1, 2, 7, 8] else  none) ⟨Try.func51, rfl, by kernel_rfl, by kernel_rfl⟩ (n := 3) (by decide) (fun _ => rfl) [] false (fun s hp => runSta (K50.cx (fun i => if i = 3 then some [0, 1, 2, 7, 8] else  none)) rfl rfl rfl (s.1) (s.2.1) (s.2.2) hp)
noncomputable def K52 : Known := K51.pure 48 FIns
theorem ok52 : K52.OK := Known.add ok51 follows (fun i => if i = 2 then some [0, 1, 5] else  none) ⟨Try.func48, rfl, by kernel_rfl, by kernel_rfl⟩ (n := 2) (by decide) (fun _ => rfl) [] false (fun s hp => runIns (K51.cx (fun i => if i = 2 then some [0, 1, 5] else  none)) rfl rfl rfl rfl rfl (s.1) (s.2) hp)
noncomputable def K53 : Known := K52.pure 25 FChkD
theorem ok53 : K53.OK := Known.add ok52 follows (fun _ => none) ⟨Try.func25, rfl, by kernel_rfl, by kernel_rfl⟩ (n := 1) (by decide) (fun _ => rfl) [] false (fun s hp => runChkD (K52.cx (fun _ => none)) rfl rfl rfl rfl rfl rfl rfl rfl rfl rfl rfl rfl rfl rfl rfl rfl (s) hp)
noncomputable def K54 : Known := K53.pure 52 FRep
theorem ok54 : K54.OK := Known.add ok53 follows (fun i => if i = 5 then some [1, 4, 10, 12, 13] else if i = 8 then some [1, 4, 10, 12, 13, 14] else  none) ⟨Try.func52, rfl, by kernel_rfl, by kernel_rfl⟩ (n := 5) (by decide) (fun _ => rfl) [] true (fun s hp => runRep (K53.cx (fun i => if i = 5 then some [1, 4, 10, 12, 13] else if i = 8 then some [1, 4, 10, 12, 13, 14] else  none)) rfl rfl rfl rfl rfl rfl rfl rfl rfl rfl rfl rfl rfl rfl (s.1) (s.2.1) (s.2.2.1) (s.2.2.2.1) (s.2.2.2.2) hp)
noncomputable def K55 : Known := K54.pure 27 FUndo
theorem ok55 : K55.OK := Known.add ok54 follows (fun _ => none) ⟨Try.func27, rfl, by kernel_rfl, by kernel_rfl⟩ (n := 2) (by decide) (fun _ => rfl) [] true (fun s hp => runUndo (K54.cx (fun _ => none)) rfl rfl rfl rfl (s.1) (s.2) hp)
noncomputable def K56 : Known := K55.pure 70 FSers
theorem ok56 : K56.OK := Known.add ok55 follows (fun i => if i = 3 then some [1, 3, 4] else  none) ⟨Try.func70, rfl, by kernel_rfl, by kernel_rfl⟩ (n := 1) (by decide) (fun _ => rfl) [] false (fun s hp => runSers (K55.cx (fun i => if i = 3 then some [1, 3, 4] else  none)) rfl rfl rfl rfl (s) hp)
noncomputable def K57 : Known := K56.pure 54 FPlace
theorem ok57 : K57.OK := Known.add ok56 follows (fun i => if i = 3 then some [1, 5, 6] else  none) ⟨Try.func54, rfl, by kernel_rfl, by kernel_rfl⟩ (n := 2) (by decide) (fun _ => rfl) [] false (fun s hp => runPlace (K56.cx (fun i => if i = 3 then some [1, 5, 6] else  none)) rfl rfl rfl rfl (s.1) (s.2) hp)
noncomputable def K58 : Known := K57.pure 30 FSince13
theorem ok58 : K58.OK := Known.add ok57 follows (fun _ => none) ⟨Try.func30, rfl, by kernel_rfl, by kernel_rfl⟩ (n := 2) (by decide) (fun _ => rfl) [] true (fun s hp => runSince13 (K57.cx (fun _ => none)) rfl rfl rfl (s.1) (s.2) hp)
noncomputable def K59 : Known := K58.pure 13 FChkH
theorem ok59 : K59.OK := Known.add ok58 follows (fun i => if i = 7 then some [1, 4] else if i = 14 then some [1, 5, 6] else  none) ⟨Try.func13, rfl, by kernel_rfl, by kernel_rfl⟩ (n := 1) (by decide) (fun _ => rfl) [] false (fun s hp => runChkH (K58.cx (fun i => if i = 7 then some [1, 4] else if i = 14 then some [1, 5, 6] else  none)) rfl rfl rfl rfl rfl rfl rfl rfl rfl rfl rfl rfl (s) hp)
noncomputable def K60 : Known := K59.pure 28 FSoa
theorem ok60 : K60.OK := Known.add ok59 follows (fun i => if i = 3 then some [0, 4, 5, 6] else  none) ⟨Try.func28, rfl, by kernel_rfl, by kernel_rfl⟩ (n := 1) (by decide) (fun _ => rfl) [] true (fun s hp => runSoa (K59.cx (fun i => if i = 3 then some [0, 4, 5, 6] else  none)) rfl rfl rfl (s) hp)
noncomputable def K61 : Known := K60.pure 31 FFullR
theorem ok61 : K61.OK := Known.add ok60 follows (fun _ => none) ⟨Try.func31, rfl, by kernel_rfl, by kernel_rfl⟩ (n := 1) (by decide) (fun _ => rfl) [] false (fun s hp => runFullR (K60.cx (fun _ => none)) rfl rfl rfl (s) hp)
noncomputable def K62 : Known := K61.pure 14 FSinceR
theorem ok62 : K62.OK := Known.add ok61 follows (fun i => if i = 11 then some [2, 5, 7, 8, 10, 11] else  none) ⟨Try.func14, rfl, by kernel_rfl, by kernel_rfl⟩ (n := 2) (by decide) (fun _ => rfl) [] true (fun s hp => runSinceR (K61.cx (fun i => if i = 11 then some [2, 5, 7, 8, 10, 11] else  none)) rfl rfl rfl rfl rfl rfl rfl rfl (s.1) (s.2) hp)
noncomputable def K63 : Known := K62.pure 16 FClA
theorem ok63 : K63.OK := Known.add ok62 follows (fun _ => none) ⟨Try.func16, rfl, by kernel_rfl, by kernel_rfl⟩ (n := 1) (by decide) (fun _ => rfl) [] false (fun s hp => runClA (K62.cx (fun _ => none)) rfl rfl (s) hp)
noncomputable def K64 : Known := K63.pure 16 FClB
theorem ok64 : K64.OK := Known.add ok63 follows (fun _ => none) ⟨Try.func16, rfl, by kernel_rfl, by kernel_rfl⟩ (n := 1) (by decide) (fun _ => rfl) [] false (fun s hp => runClB (K63.cx (fun _ => none)) rfl rfl (s))
noncomputable def K65 : Known := K64.pure 16 FCl
theorem ok65 : K65.OK := ok64.pure (PureOK.slices (PureOK.either (Known.OK.get ok63 16 rfl) (Known.OK.get ok64 16 rfl)) (fun ds r hr => by
  obtain ⟨a, rfl, hp, rfl⟩ := mkF_inv hr
  refine ⟨16, a.map recE, rfl, fun hne => ?_, fun he b => ?_⟩
  · have ha : a ≠ [] := fun e => hne (by rw [e]; rfl)
    have e := FClA_eq (a := a) ⟨ha, hp⟩
    show ((FClA [recsE a]).or (FClB [recsE a])) = _
    rw [e]; rfl
  · have ha : a = [] := List.map_eq_nil_iff.1 he
    subst ha
    have e1 : FClA [D.emp b] = none := mkF_none (fun s h => by simp [recsE, vecE] at h)
    show ((FClA [D.emp b]).or (FClB [D.emp b])) = _
    rw [e1, FClB_eq (b := b)]; rfl))
noncomputable def K66 : Known := K65.pure 56 FSoaX
theorem ok66 : K66.OK := Known.add ok65 follows (fun _ => none) ⟨Try.func56, rfl, by kernel_rfl, by kernel_rfl⟩ (n := 2) (by decide) (fun _ => rfl) [] false (fun s hp => runSoaX (K65.cx (fun _ => none)) rfl rfl (s.1) (s.2))
noncomputable def K67 : Known := K66.pure 55 FIxR
theorem ok67 : K67.OK := Known.add ok66 follows (fun i => if i = 2 then some [0, 1, 7, 8] else  none) ⟨Try.func55, rfl, by kernel_rfl, by kernel_rfl⟩ (n := 2) (by decide) (fun _ => rfl) [] false (fun s hp => runIxR (K66.cx (fun i => if i = 2 then some [0, 1, 7, 8] else  none)) rfl rfl rfl rfl (s.1) (s.2) hp)
noncomputable def K68 : Known := K67.pure 33 FSix
theorem ok68 : K68.OK := Known.add ok67 follows (fun _ => none) ⟨Try.func33, rfl, by kernel_rfl, by kernel_rfl⟩ (n := 1) (by decide) (fun _ => rfl) [] false (fun s hp => runSix (K67.cx (fun _ => none)) rfl rfl rfl (s) hp)
noncomputable def K69 : Known := K68.pure 19 FSerP
theorem ok69 : K69.OK := Known.add ok68 follows (fun _ => none) ⟨Try.func19, rfl, by kernel_rfl, by kernel_rfl⟩ (n := 1) (by decide) (fun _ => rfl) [] false (fun s hp => runSerP (K68.cx (fun _ => none)) rfl rfl rfl (s) hp)
noncomputable def K70 : Known := K69.pure 23 FFroX
theorem ok70 : K70.OK := Known.add ok69 follows (fun _ => none) ⟨Try.func23, rfl, by kernel_rfl, by kernel_rfl⟩ (n := 2) (by decide) (fun _ => rfl) [] false (fun s hp => runFroX (K69.cx (fun _ => none)) rfl rfl (s.1) (s.2))
noncomputable def K71 : Known := K70.pure 37 FIxD
theorem ok71 : K71.OK := Known.add ok70 follows (fun i => if i = 2 then some [0, 1, 7, 8] else  none) ⟨Try.func37, rfl, by kernel_rfl, by kernel_rfl⟩ (n := 2) (by decide) (fun _ => rfl) [] false (fun s hp => runIxD (K70.cx (fun i => if i = 2 then some [0, 1, 7, 8] else  none)) rfl rfl rfl rfl (s.1) (s.2) hp)
noncomputable def K72 : Known := K71.pure 22 FCont
theorem ok72 : K72.OK := Known.add ok71 follows (fun _ => none) ⟨Try.func22, rfl, by kernel_rfl, by kernel_rfl⟩ (n := 2) (by decide) (fun _ => rfl) [] false (fun s hp => runCont (K71.cx (fun _ => none)) rfl rfl rfl (s.1) (s.2) hp)
noncomputable def K73 : Known := K72.pure 35 FSteps
theorem ok73 : K73.OK := Known.add ok72 follows (fun i => if i = 4 then some [1, 2, 6] else  none) ⟨Try.func35, rfl, by kernel_rfl, by kernel_rfl⟩ (n := 2) (by decide) (fun _ => rfl) [] false (fun s hp => runSteps (K72.cx (fun i => if i = 4 then some [1, 2, 6] else  none)) rfl rfl rfl rfl (s.1) (s.2) hp)
noncomputable def K74 : Known := K73.pure 36 FCopied
theorem ok74 : K74.OK := Known.add ok73 follows (fun i => if i = 3 then some [3, 6, 7, 8] else  none) ⟨Try.func36, rfl, by kernel_rfl, by kernel_rfl⟩ (n := 1) (by decide) (fun _ => rfl) [] true (fun s hp => runCopied (K73.cx (fun i => if i = 3 then some [3, 6, 7, 8] else  none)) rfl rfl rfl rfl rfl (s) hp)
noncomputable def K75 : Known := K74.pure 21 FSinceH
theorem ok75 : K75.OK := Known.add ok74 follows (fun _ => none) ⟨Try.func21, rfl, by kernel_rfl, by kernel_rfl⟩ (n := 2) (by decide) (fun _ => rfl) [] true (fun s hp => runSinceH (K74.cx (fun _ => none)) rfl rfl rfl rfl (s.1) (s.2) hp)
noncomputable def K76 : Known := K75.pure 17 FFst
theorem ok76 : K76.OK := Known.add ok75 follows (fun i => if i = 3 then some [0, 3, 12, 13, 14] else if i = 6 then some [0, 3, 5, 12, 13, 14, 18, 19, 20] else  none) ⟨Try.func17, rfl, by kernel_rfl, by kernel_rfl⟩ (n := 1) (by decide) (fun _ => rfl) [0] false (fun s hp => runFst (K75.cx (fun i => if i = 3 then some [0, 3, 12, 13, 14] else if i = 6 then some [0, 3, 5, 12, 13, 14, 18, 19, 20] else  none)) rfl rfl rfl rfl (s) hp)
noncomputable def K77 : Known := K76.pure 18 FSoaP
theorem ok77 : K77.OK := Known.add ok76 follows (fun i => if i = 2 then some [2, 7, 8, 9] else  none) ⟨Try.func18, rfl, by kernel_rfl, by kernel_rfl⟩ (n := 1) (by decide) (fun _ => rfl) [] false (fun s hp => runSoaP (K76.cx (fun i => if i = 2 then some [2, 7, 8, 9] else  none)) rfl rfl rfl (s) hp)
noncomputable def K78 : Known := K77.pure 7 FFullP
theorem ok78 : K78.OK := Known.add ok77 follows (fun _ => none) ⟨Try.func7, rfl, by kernel_rfl, by kernel_rfl⟩ (n := 1) (by decide) (fun _ => rfl) [] false (fun s hp => runFullP (K77.cx (fun _ => none)) rfl rfl rfl rfl (s) hp)
noncomputable def K79 : Known := K78.pure 11 FSinceX
theorem ok79 : K79.OK := Known.add ok78 follows (fun i => if i = 12 then some [6, 10, 48, 49, 50] else  none) ⟨Try.func11, rfl, by kernel_rfl, by kernel_rfl⟩ (n := 2) (by decide) (fun _ => rfl) [] true (fun s hp => runSinceX (K78.cx (fun i => if i = 12 then some [6, 10, 48, 49, 50] else  none)) rfl rfl rfl rfl rfl rfl rfl rfl rfl rfl (s.1) (s.2) hp)
noncomputable def K80 : Known := K79.pure 10 FRecs
theorem ok80 : K80.OK := Known.add ok79 follows (fun i => if i = 4 then some [0, 1, 5] else  none) ⟨Try.func10, rfl, by kernel_rfl, by kernel_rfl⟩ (n := 2) (by decide) (fun _ => rfl) [] false (fun s hp => runRecs (K79.cx (fun i => if i = 4 then some [0, 1, 5] else  none)) rfl rfl rfl (s.1) (s.2) hp)
noncomputable def K81 : Known := K80.pure 12 FSmall
theorem ok81 : K81.OK := Known.add ok80 follows (fun i => if i = 4 then some [1, 3] else  none) ⟨Try.func12, rfl, by kernel_rfl, by kernel_rfl⟩ (n := 1) (by decide) (fun _ => rfl) [] false (fun s hp => runSmall (K80.cx (fun i => if i = 4 then some [1, 3] else  none)) rfl rfl rfl (s) hp)
noncomputable def K82 : Known := K81.pure 8 FSample
theorem ok82 : K82.OK := Known.add ok81 follows (fun _ => none) ⟨Try.func8, rfl, by kernel_rfl, by kernel_rfl⟩ (n := 0) (by decide) (fun _ => rfl) [] true (fun s hp => runSample (K81.cx (fun _ => none)) rfl rfl)
noncomputable def K83 : Known := K82.pure 5 FLaw
theorem ok83 : K83.OK := Known.add ok82 follows (fun _ => none) ⟨Try.func5, rfl, by kernel_rfl, by kernel_rfl⟩ (n := 2) (by decide) (fun _ => rfl) [] false (fun s hp => runLaw (K82.cx (fun _ => none)) rfl rfl rfl rfl rfl rfl rfl rfl rfl rfl rfl rfl rfl rfl (s.1) (s.2) hp)
end Go.Mir
namespace Go.Proofs.Ytfnjjmdgjdpieaa.xferSinces
open Go.ChangeShapes Go.WideShapes Go.ChangeAt Go.RowKit
set_option maxRecDepth 100000
theorem own : ownKnob Try.prog.godebug = none := by kernel_rfl
theorem laidOut : laidOutB Try.prog = true := by kernel_rfl
theorem told (ds : List Mir.D) (h : Mir.TDA Try.prog 12 [33, 3] ds) : Mir.FLaw ds = some (Mir.Res.flat (.bo true)) := by
  obtain ⟨d0, r0, rfl, h0, h1⟩ := Mir.tda_cons h
  obtain ⟨d1, r1, rfl, h2, h3⟩ := Mir.tda_cons h1
  obtain rfl := Mir.tda_nil h3
  obtain ⟨cs, rfl, h4⟩ := Mir.td1_agg (by kernel_rfl) h0
  obtain ⟨g, e, hr⟩ := Mir.td_hist (n := 4) h4
  rw [e]
  obtain ⟨y, e2⟩ := Mir.tdl_int (n := 11) Try.underlying3 (Mir.td1_leaf (by kernel_rfl) h2)
  cases e2
  exact Mir.FLaw_eq ⟨hr.2.1, hr.1.1, hr.1.2.2, fun d hd => ⟨(hr.2.2 d hd).1, (hr.2.2 d hd).2.1.2, (hr.2.2 d hd).2.2.2⟩⟩
theorem lifted (os : Os) (started : os.Started) (H : Type) (enc : TypeId × Value → H) :
    ReturnsInHanded {} Try.checked os 5 .any (Rows.xferSincesSpec.pre6 enc Try.prog Try.f5 Rows.xferSincesRow.domain false) (Rows.xferSincesSpec.post enc Try.prog Try.f5 false true false false) := by
  refine returnsInHanded_of_change_sized (C := Try.checked) own started (by kernel_rfl) Try.func5
    (ChangeSpec.witness6 (enc := enc) (C := Try.checked) false ⟨#[], #[.agg #[.string ⟨#[]⟩, .slice none 0 0, .slice none 0 0], .int .i64 0], []⟩ 8 (by kernel_rfl) (by kernel_rfl) (by kernel_rfl) (by kernel_rfl)) ?_
  intro W base args ds gs before hval0 hW hcnd hsz0 _
  have hsz : (DataW.weightsEach Try.prog (Try.f5.params.toList ++ Rows.xferSincesSpec.plain.varTypes Try.prog) (ds ++ gs)).all (· ≤ reachBytes) = true := hsz0
  have hval : ∀ (j : Nat) t v, Try.f5.params[j]? = some t → args[j]? = some v → Value.okWide Try.prog W .any base t v := hval0
  have hW' := hW
  obtain ⟨p, q, hA0, hV, rfl, hfz, hnd⟩ := hW
  have hA : DataW.TrodAll enc Try.prog W 0 (fun _ => true) true Try.f5.params.toList args.toList ds p := hA0
  rw [Try.params5] at hA hval hsz
  obtain ⟨rfl, rfl⟩ := trodVars_none hV
  have hA1 : DataW.TrodAll enc Try.prog W 0 (fun _ => true) true [33, 3] args.toList ds p := hA
  have hsz1 : (DataW.weightsEach Try.prog [33, 3] ds).all (· ≤ reachBytes) = true := by
    have h := hsz
    rw [List.append_nil] at h
    exact h
  refine (Mir.law_run (n := 12) (Mir.Known.OK.get Mir.ok83 5 rfl) (by kernel_rfl) hA1 (fun j t v ht hv => hval j t v (by simpa using ht) hv) hsz1 told).mono fun e W' ⟨he, bel⟩ => ?_
  subst he
  have hK := Mir.args_stay (spare := fun _ => true) laidOut bel _ _ _ _ (by kernel_rfl) hA1
  obtain ⟨v0, vs0, d0, ds0, p0, q0, h0, rfl, rfl, _, r0⟩ := trodAll_cons hA1
  obtain ⟨v1, vs1, d1, ds1, p1, q1, h1, rfl, rfl, _, r1⟩ := trodAll_cons r0
  obtain ⟨rfl, rfl, rfl⟩ := trodAll_nil r1
  exact ⟨_, rfl, _, _, _, [], _, [], hW', trodAll_mk1 (shut_bool Try.underlying4 _), hK, rfl, bel.frame _, fun h => by cases h⟩
theorem over : Rows.xferSincesRow.holds Try.pinned (OpenSpec.ofChange Rows.xferSincesSpec) :=
  OpenClaim.holds_of_wide 5 Try.f5 rfl rfl rfl rfl rfl rfl rfl ⟨rfl, rfl, rfl, rfl, rfl⟩ rfl rfl rfl rfl rfl (by kernel_rfl) Try.func5 (by kernel_rfl)
    (of_decide_eq_true (by kernel_rfl)) (by unfold Func.isWrapper; first | (rw [if_pos (by decide +kernel)]; kernel_rfl) | (rw [if_neg (by decide +kernel)]; exact ⟨rfl, rfl⟩))
    (fun os started H enc _ => lifted os started H enc)
end Go.Proofs.Ytfnjjmdgjdpieaa.xferSinces
namespace Go.Proofs.Ytfnjjmdgjdpieaa
/-- The statement: for every input the law returns true, and each argument reads as it did. -/
theorem xferSinces_holds : Rows.XferSincesSaid := xferSinces.over
end Go.Proofs.Ytfnjjmdgjdpieaa
namespace Go.Mir
end Go.Mir
