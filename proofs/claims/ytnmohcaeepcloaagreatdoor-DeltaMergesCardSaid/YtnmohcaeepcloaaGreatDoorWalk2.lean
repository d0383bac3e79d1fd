/- What the program's functions answer, read off their code; no conditions. -/
import Derived.Test.YtnmohcaeepcloaaGreatDoorWalk1
import Derived.KernelRfl
set_option linter.unusedSimpArgs false
set_option linter.unusedVariables false
set_option linter.defProp false
set_option maxRecDepth 100000
set_option maxHeartbeats 4000000
open Go Go.RowKit Go.Proofs
namespace Go.Mir
attribute [local congr] Ev.congr EvC.congr EvW.congr Br.congr Ms.congr
theorem yFP {t : Int} {s : Nat} (h : (s : Int) < (zBB t).1.fl.length) : (zBB t).1.fl[s]! ∈ (zBB t).1.fl := zBO h
theorem yDS {d : Dat} {c : Int} (h : okF d c) (h1 : ¬ c = 104) (h2 : ¬ c = 109) (h3 : ¬ c = 52) (h4 : ¬ c = 54) (h5 : ¬ c = 116) (h6 : ¬ c = 114) (h7 : ¬ c = 115) (h8 : ¬ c = 110) : letC c ∧ N64 (fldC c d) := by
 rcases h with h | h
 · omega
 · exact h
theorem yDI (c : Int) : 0 ≤ sizC c ∧ sizC c ≤ 8 := by
 unfold sizC; repeat' split
 all_goals decide
theorem zXj {t : Int} {d : Dat} (h : validD t d = true) (s : Nat) : (zDs d ((zBB t).1.fl.take s)).length ≤ 900000 := by
 have h1 := zRs (d := d) (l := (zBB t).1.fl.take s) fun c hc => zL7 h c (List.mem_of_mem_take hc)
 have h2 := zR5 t
 have h3 : ((zBB t).1.fl.take s).length ≤ (zBB t).1.fl.length := by rw [List.length_take]; omega
 omega
theorem zXk (a : Adr) : (zBx a).1.length ≤ 16 := by unfold zBx; split <;> (try split) <;> simp [zBk]
theorem yEt {d : Dat} {c : Int} (h : okF d c) (hc : c = 116 ∨ c = 114) : d.text.length ≤ 255 := by
 rcases h with h | h
 · omega
 · have : letC c → ¬ c = 116 ∧ ¬ c = 114 := by unfold letC; omega
   have := this h.1; omega
theorem zUu {a : Adr} (h : vAdr a = true) : zBx a = ((zBx a).1, 0) := by unfold zBx; rw [if_pos h]; split <;> rfl

theorem zLU (d : Dat) : zDP d (((104 : UInt8).toNat : Nat) : Int) = zBH d.host := rfl
theorem zLT (d : Dat) : zDP d (((109 : UInt8).toNat : Nat) : Int) = zBH d.mail := rfl
theorem pc52 (d : Dat) : zDP d (((52 : UInt8).toNat : Nat) : Int) = (zBx d.adr).1 := rfl
theorem pc54 (d : Dat) : zDP d (((54 : UInt8).toNat : Nat) : Int) = (zBx d.adr).1 := rfl
theorem zLP (d : Dat) : zDP d (((116 : UInt8).toNat : Nat) : Int) = numB .i64 d.text.length 1 ++ d.text := rfl
theorem zLR (d : Dat) : zDP d (((114 : UInt8).toNat : Nat) : Int) = d.text := rfl
theorem zLQ (d : Dat) : zDP d (((115 : UInt8).toNat : Nat) : Int) = numB .i64 253 1 := rfl
theorem zLS (d : Dat) : zDP d (((110 : UInt8).toNat : Nat) : Int) = numB .i64 0 1 ++ numB .i64 (bmB d.bits).length 1 ++ bmB d.bits := rfl
theorem pc65 (d : Dat) : zDP d (((65 : UInt8).toNat : Nat) : Int) = numB .i64 d.a 2 := rfl
theorem pc66 (d : Dat) : zDP d (((66 : UInt8).toNat : Nat) : Int) = numB .i64 d.b 2 := rfl
theorem pc67 (d : Dat) : zDP d (((67 : UInt8).toNat : Nat) : Int) = numB .i64 d.c 2 := rfl
theorem pc70 (d : Dat) : zDP d (((70 : UInt8).toNat : Nat) : Int) = numB .i64 d.f 2 := rfl
theorem pc98 (d : Dat) : zDP d (((98 : UInt8).toNat : Nat) : Int) = numB .i64 d.b 1 := rfl
theorem pc99 (d : Dat) : zDP d (((99 : UInt8).toNat : Nat) : Int) = numB .i64 d.c 1 := rfl
theorem zLO (d : Dat) : zDP d (((118 : UInt8).toNat : Nat) : Int) = numB .i64 d.a 4 := rfl
theorem zLN (d : Dat) : zDP d (((119 : UInt8).toNat : Nat) : Int) = numB .i64 d.b 4 := rfl
theorem zLM (d : Dat) : zDP d (((120 : UInt8).toNat : Nat) : Int) = numB .i64 d.c 4 := rfl
theorem zLL (d : Dat) : zDP d (((121 : UInt8).toNat : Nat) : Int) = numB .i64 d.d 4 := rfl
theorem zLK (d : Dat) : zDP d (((122 : UInt8).toNat : Nat) : Int) = numB .i64 d.e 4 := rfl
theorem yA1 {t : Int} {d : Dat} (h : validD t d = true) : zAx t d = (zDs d (zBB t).1.fl, 0) := by
 have hk := zNX h
 rcases zDJ t with rfl | rfl | rfl | rfl | rfl | rfl | rfl | rfl | rfl | rfl | rfl | rfl | rfl | rfl | hno
 · have e : zAx 1 d = zBx d.adr := by unfold zAx; rw [if_pos hk, if_pos h]; rfl
   rw [e]
   show _ = (zDs d [52], 0)
   have hv : vAdr d.adr = true := by
     have e2 : validD 1 d = if ¬ zA1 1 d = d then false else (vAdr d.adr && !d.adr.v6) := rfl
     by_cases hu : zA1 1 d = d
     · rw [e2, if_neg (not_not_intro hu)] at h; exact (Bool.and_eq_true _ _ ▸ h).1
     · rw [e2, if_pos hu] at h; cases h
   rw [zUu hv]
   simp only [zDs, zLU, zLT, pc52, pc54, zLP, zLR, zLQ, zLS, pc65, pc66, pc67, pc70, pc98, pc99, zLO, zLN, zLM, zLL, zLK, List.append_nil, List.append_assoc]
 · have e : zAx 2 d = (zBH d.host, 0) := by unfold zAx; rw [if_pos hk, if_pos h]; rfl
   rw [e]
   show _ = (zDs d [104], 0)
   simp only [zDs, zLU, zLT, pc52, pc54, zLP, zLR, zLQ, zLS, pc65, pc66, pc67, pc70, pc98, pc99, zLO, zLN, zLM, zLL, zLK, List.append_nil, List.append_assoc]
 · have e : zAx 5 d = (zBH d.host, 0) := by unfold zAx; rw [if_pos hk, if_pos h]; rfl
   rw [e]
   show _ = (zDs d [104], 0)
   simp only [zDs, zLU, zLT, pc52, pc54, zLP, zLR, zLQ, zLS, pc65, pc66, pc67, pc70, pc98, pc99, zLO, zLN, zLM, zLL, zLK, List.append_nil, List.append_assoc]
 · have e : zAx 6 d = (zBH d.host ++ zBH d.mail ++ numB .i64 d.a 4 ++ numB .i64 d.b 4 ++ numB .i64 d.c 4 ++ numB .i64 d.d 4 ++ numB .i64 d.e 4, 0) := by unfold zAx; rw [if_pos hk, if_pos h]; rfl
   rw [e]
   show _ = (zDs d [104, 109, 118, 119, 120, 121, 122], 0)
   simp only [zDs, zLU, zLT, pc52, pc54, zLP, zLR, zLQ, zLS, pc65, pc66, pc67, pc70, pc98, pc99, zLO, zLN, zLM, zLL, zLK, List.append_nil, List.append_assoc]
 · have e : zAx 12 d = (zBH d.host, 0) := by unfold zAx; rw [if_pos hk, if_pos h]; rfl
   rw [e]
   show _ = (zDs d [104], 0)
   simp only [zDs, zLU, zLT, pc52, pc54, zLP, zLR, zLQ, zLS, pc65, pc66, pc67, pc70, pc98, pc99, zLO, zLN, zLM, zLL, zLK, List.append_nil, List.append_assoc]
 · have e : zAx 15 d = (numB .i64 d.a 2 ++ zBH d.host, 0) := by unfold zAx; rw [if_pos hk, if_pos h]; rfl
   rw [e]
   show _ = (zDs d [65, 104], 0)
   simp only [zDs, zLU, zLT, pc52, pc54, zLP, zLR, zLQ, zLS, pc65, pc66, pc67, pc70, pc98, pc99, zLO, zLN, zLM, zLL, zLK, List.append_nil, List.append_assoc]
 · have e : zAx 16 d = (numB .i64 d.text.length 1 ++ d.text, 0) := by unfold zAx; rw [if_pos hk, if_pos h]; rfl
   rw [e]
   show _ = (zDs d [116], 0)
   simp only [zDs, zLU, zLT, pc52, pc54, zLP, zLR, zLQ, zLS, pc65, pc66, pc67, pc70, pc98, pc99, zLO, zLN, zLM, zLL, zLK, List.append_nil, List.append_assoc]
 · have e : zAx 28 d = zBx d.adr := by unfold zAx; rw [if_pos hk, if_pos h]; rfl
   rw [e]
   show _ = (zDs d [54], 0)
   have hv : vAdr d.adr = true := by
     have e2 : validD 28 d = if ¬ zA1 28 d = d then false else d.adr.v6 := rfl
     by_cases hu : zA1 28 d = d
     · rw [e2, if_neg (not_not_intro hu)] at h; simp [vAdr, h]
     · rw [e2, if_pos hu] at h; cases h
   rw [zUu hv]
   simp only [zDs, zLU, zLT, pc52, pc54, zLP, zLR, zLQ, zLS, pc65, pc66, pc67, pc70, pc98, pc99, zLO, zLN, zLM, zLL, zLK, List.append_nil, List.append_assoc]
 · have e : zAx 33 d = (numB .i64 d.a 2 ++ numB .i64 d.b 2 ++ numB .i64 d.c 2 ++ zBH d.host, 0) := by unfold zAx; rw [if_pos hk, if_pos h]; rfl
   rw [e]
   show _ = (zDs d [65, 66, 67, 104], 0)
   simp only [zDs, zLU, zLT, pc52, pc54, zLP, zLR, zLQ, zLS, pc65, pc66, pc67, pc70, pc98, pc99, zLO, zLN, zLM, zLL, zLK, List.append_nil, List.append_assoc]
 · have e : zAx 39 d = (zBH d.host, 0) := by unfold zAx; rw [if_pos hk, if_pos h]; rfl
   rw [e]
   show _ = (zDs d [104], 0)
   simp only [zDs, zLU, zLT, pc52, pc54, zLP, zLR, zLQ, zLS, pc65, pc66, pc67, pc70, pc98, pc99, zLO, zLN, zLM, zLL, zLK, List.append_nil, List.append_assoc]
 · have e : zAx 43 d = (numB .i64 d.a 2 ++ numB .i64 d.b 1 ++ numB .i64 d.c 1 ++ d.text, 0) := by unfold zAx; rw [if_pos hk, if_pos h]; rfl
   rw [e]
   show _ = (zDs d [65, 98, 99, 114], 0)
   simp only [zDs, zLU, zLT, pc52, pc54, zLP, zLR, zLQ, zLS, pc65, pc66, pc67, pc70, pc98, pc99, zLO, zLN, zLM, zLL, zLK, List.append_nil, List.append_assoc]
 · have e : zAx 46 d = (numB .i64 d.a 2 ++ numB .i64 253 1 ++ numB .i64 d.b 1 ++ numB .i64 d.c 4 ++ numB .i64 d.d 4 ++ numB .i64 d.e 4 ++ numB .i64 d.f 2 ++ zBH d.host ++ d.text, 0) := by unfold zAx; rw [if_pos hk, if_pos h]; rfl
   rw [e]
   show _ = (zDs d [65, 115, 98, 120, 121, 122, 70, 104, 114], 0)
   simp only [zDs, zLU, zLT, pc52, pc54, zLP, zLR, zLQ, zLS, pc65, pc66, pc67, pc70, pc98, pc99, zLO, zLN, zLM, zLL, zLK, List.append_nil, List.append_assoc]
 · have e : zAx 47 d = (zBH d.host ++ numB .i64 0 1 ++ numB .i64 (bmB d.bits).length 1 ++ bmB d.bits, 0) := by unfold zAx; rw [if_pos hk, if_pos h]; rfl
   rw [e]
   show _ = (zDs d [104, 110], 0)
   simp only [zDs, zLU, zLT, pc52, pc54, zLP, zLR, zLQ, zLS, pc65, pc66, pc67, pc70, pc98, pc99, zLO, zLN, zLM, zLL, zLK, List.append_nil, List.append_assoc]
 · have e : zAx 48 d = (numB .i64 d.a 2 ++ numB .i64 d.b 1 ++ numB .i64 d.c 1 ++ d.text, 0) := by unfold zAx; rw [if_pos hk, if_pos h]; rfl
   rw [e]
   show _ = (zDs d [65, 98, 99, 114], 0)
   simp only [zDs, zLU, zLT, pc52, pc54, zLP, zLR, zLQ, zLS, pc65, pc66, pc67, pc70, pc98, pc99, zLO, zLN, zLM, zLL, zLK, List.append_nil, List.append_assoc]
 · rw [zLZ hno] at hk; cases hk

theorem zHd (cx : Cx) (hP : cx.P = Tryz.prog) (hbs : cx.bs = 0) (h115 : cx.orc 115 = some zKc) (h89 : cx.orc 89 = some FVD) (h184 : cx.orc 184 = some zKA) (h185 : cx.orc 185 = some FWAP) (h186 : cx.orc 186 = some FBmP) (h188 : cx.orc 188 = some zOZ) (xn187 : cx.orc 187 = none) (xe187 : cx.ext 187 = none) (xf187 : cx.eff 187 = some zI4) (hk8 : cx.kp 8 = some [3, 6, 8, 31, 32]) (t1 : Int) (d1 : Dat) (hl : DSm d1) : zAj cx Tryz.f165 [] false [.it .i64 t1, datE d1] = some (Res.flat (.tup [.st (zAx t1 d1).1, .it .i64 (zAx t1 d1).2])) := by
 have c115 := zAa h115
 have c89 := zAa h89
 have c184 := zAa h184
 have c185 := zAa h185
 have c186 := zAa h186
 have c188 := zAa h188
 have cf187 := fun H nid l => (show zDD cx 187 l H nid = _ from zCD xn187 xe187 xf187)
 have hl1 := hl.1; have hl2 := hl.2.1; have hl3 := hl.2.2.1; have hl4 := hl.2.2.2
 have hk9 := zR5 t1
 have hw : ∀ k : Nat, (k : Int) < (zBB t1).1.fl.length → IntKind.i64.wrap ((k : Int) + 1) = ((k + 1 : Nat) : Int) := fun k h => by rw [wrap64 (by omega) (by omega)]; simp
 have hpl : ∀ (H : Hp) (nid : Nat) (c : Int), H 0 = .box (datL d1) → letC c → zEN zI4 [.ptr 0 0, .it .u8 c] H nid = some (.tup [.ptr 0 (offC c), .it .i64 (sizC c)], upd H 0 (.box (datL d1)), nid) := fun H nid c hH hc => by rw [yB6 rfl hH (zNK d1), yAJ hc]; simp only [Option.bind_some, List.length_cons, List.length_nil, yC6 (zNK d1)]; rfl
 have hlet : ∀ s : Nat, validD t1 d1 = true → (s : Int) < (zBB t1).1.fl.length → ¬ (((zBB t1).1.fl[s]!).toNat : Int) = 104 → ¬ (((zBB t1).1.fl[s]!).toNat : Int) = 109 → ¬ (((zBB t1).1.fl[s]!).toNat : Int) = 52 → ¬ (((zBB t1).1.fl[s]!).toNat : Int) = 54 → ¬ (((zBB t1).1.fl[s]!).toNat : Int) = 116 → ¬ (((zBB t1).1.fl[s]!).toNat : Int) = 114 → ¬ (((zBB t1).1.fl[s]!).toNat : Int) = 115 → ¬ (((zBB t1).1.fl[s]!).toNat : Int) = 110 → letC (((zBB t1).1.fl[s]!).toNat : Int) := fun s hv hs h1 h2 h3 h4 h5 h6 h7 h8 => (yDS (zL7 hv _ (yFP hs)) h1 h2 h3 h4 h5 h6 h7 h8).1
 have hnum : ∀ s : Nat, validD t1 d1 = true → (s : Int) < (zBB t1).1.fl.length → ¬ (((zBB t1).1.fl[s]!).toNat : Int) = 104 → ¬ (((zBB t1).1.fl[s]!).toNat : Int) = 109 → ¬ (((zBB t1).1.fl[s]!).toNat : Int) = 52 → ¬ (((zBB t1).1.fl[s]!).toNat : Int) = 54 → ¬ (((zBB t1).1.fl[s]!).toNat : Int) = 116 → ¬ (((zBB t1).1.fl[s]!).toNat : Int) = 114 → ¬ (((zBB t1).1.fl[s]!).toNat : Int) = 115 → ¬ (((zBB t1).1.fl[s]!).toNat : Int) = 110 → zOZ [.it .i64 (fldC (((zBB t1).1.fl[s]!).toNat : Int) d1), .it .i64 (sizC (((zBB t1).1.fl[s]!).toNat : Int))] = some (Res.flat (.st (numB .i64 (fldC (((zBB t1).1.fl[s]!).toNat : Int) d1) (sizC (((zBB t1).1.fl[s]!).toNat : Int)).toNat))) := fun s hv hs h1 h2 h3 h4 h5 h6 h7 h8 => zVP ⟨(yDS (zL7 hv _ (yFP hs)) h1 h2 h3 h4 h5 h6 h7 h8).2, yDI _⟩
 have hpl2 : ∀ (s nid : Nat), validD t1 d1 = true → (s : Int) < (zBB t1).1.fl.length → ¬ (((zBB t1).1.fl[s]!).toNat : Int) = 104 → ¬ (((zBB t1).1.fl[s]!).toNat : Int) = 109 → ¬ (((zBB t1).1.fl[s]!).toNat : Int) = 52 → ¬ (((zBB t1).1.fl[s]!).toNat : Int) = 54 → ¬ (((zBB t1).1.fl[s]!).toNat : Int) = 116 → ¬ (((zBB t1).1.fl[s]!).toNat : Int) = 114 → ¬ (((zBB t1).1.fl[s]!).toNat : Int) = 115 → ¬ (((zBB t1).1.fl[s]!).toNat : Int) = 110 → zEN zI4 [.ptr 0 0, .it .u8 (((zBB t1).1.fl[s]!).toNat : Int)] (ofHp [.box (datL d1), .box (kdL (zBB t1).1)]) nid = some (.tup [.ptr 0 (offC (((zBB t1).1.fl[s]!).toNat : Int)), .it .i64 (sizC (((zBB t1).1.fl[s]!).toNat : Int))], ofHp [.box (datL d1), .box (kdL (zBB t1).1)], nid) := fun s nid hv hs h1 h2 h3 h4 h5 h6 h7 h8 => by rw [hpl _ _ _ rfl (hlet s hv hs h1 h2 h3 h4 h5 h6 h7 h8)]; congr 3; funext i; unfold upd; split <;> simp_all [ofHp]
 have hdr : ∀ s : Nat, letC (((zBB t1).1.fl[s]!).toNat : Int) → (datL d1).drop (offC (((zBB t1).1.fl[s]!).toNat : Int)) = .it .i64 (fldC (((zBB t1).1.fl[s]!).toNat : Int) d1) :: (datL d1).drop (offC (((zBB t1).1.fl[s]!).toNat : Int) + 1) := fun s h => yJz d1 h
 refine zAg (rs := [.tmp 4, .tmp 5]) rfl hbs rfl ?_
 repeat' first
   | (refine zAw (σ := Nat) (fun s => [.ptr 0 0, .ptr 1 0, .st (zDs d1 ((zBB t1).1.fl.take s)), .it .i64 (zBB t1).1.fl.length, .it .i64 s]) (fun s => [.box (datL d1), .box (kdL (zBB t1).1)]) (fun s => s ≤ (zBB t1).1.fl.length) (fun s => (zBB t1).1.fl.length - s) [3, 6, 8, 31, 32] hbs (by exact hk8) (fun q jq b hb => by simp only [List.mem_cons, List.not_mem_nil, or_false] at hb; rcases hb with rfl | rfl; exact zNK _; exact zZe _) (fun s js => ?_) (s := 0) [0, 1] ?_ ?_ ?_ ?_ ?_)
   | (refine zAR (fun h => ?_) (fun h => ?_) <;> (try simp only [cN] at h))
   | (refine zAN ?_ ?_)
   | simp only [↓cD, cU, cQ, cP, cB, zAJ, unD, zAf, zAd, idx, reduceCtorEq, ↓reduceIte, ofV, ofC, zAq, Nat.reduceEqDiff, zAG, cG, implies_true, forall_const, immL, immD, Res.flat, ren, renL, Int.reduceEq, Int.reduceLT, Int.reduceLE, Int.reduceNe, deref, ldD, zAF, zAk, zAI, zAs, cC, c115, c89, c184, c185, c186, c188, zAo, zAp, zSK, zKx, yAK, yGT, yHd, zVP, ↓zAM, ↓zAQ, ↓zAL, ↓zAP, ↓zAK, ↓zAO, cV, cT, cF, cW, borT, borM, zAm, Res.via, zAu, zAb, refsB, Nat.reduceLT, Nat.reduceSub, Nat.reduceLeDiff, Nat.reduceMul, Nat.reduceAdd, Int.reduceToNat, appK, zAr, zAc, borL, zAl, zAn, zAE, cO, List.replicate, zAC, ofHp, ixOf, zND, zKj, zU5, zQs, zU9, zQt, zU6, zU4, zU8, yCe, zNC, zNB, zNA, yCf, zNz, zQu, yCg, zU7, zNE, zP0, zOQ, Tryz.underlying102, Tryz.underlying103, zNT, zIa, zG0, zH9, zGZ, zQJ, zQM, zQI, zQL, zQH, zQK, yC5, zZG, zW9, zXi, zVH, zVI, zQn, zQo, zQa, zVd, zUD, zUF, zUG, zUX, zQb, zVc, hl1, hl2, hl3, hl4, lens Tryz.underlying9, ixs Tryz.underlying9, zOu, hw, hpl2, hlet, hnum, hdr, zUg, zYI, zEp, zCU Tryz.underlying149 Tryz.underlying5 sz5 Tryz.underlying9, hP, *]
 all_goals first
   | rfl
   | omega
   | (simp [zAx, *]; done)
   | (rw [yA1 ‹validD t1 d1 = true›, zAW (by omega)]; done)
   | (have := zXj ‹validD t1 d1 = true› s; have := zDA d1.host; have := zDA d1.mail; have := zMI d1.bits; have := zXk d1.adr; have := yEt (zL7 ‹validD t1 d1 = true› _ (yFP (s := s) (by omega))); have := (yDI (((zBB t1).1.fl[s]!).toNat : Int)).2; (try simp only [List.length_append, zBk, List.length_cons, List.length_nil]); omega)
   | (refine ⟨[0, 1], s + 1, ?_, ?_, ?_, ?_, by omega, by omega⟩; rotate_left 2; (rw [takeN (by omega), zPu]; simp only [zDP, *, if_true, if_false, List.append_assoc, Int.reduceEq]; rfl); all_goals rfl)
theorem zNj (cx : Cx) (hP : cx.P = Tryz.prog) (hbs : cx.bs = 0) (h165 : cx.orc 165 = some FWD) (h163 : cx.orc 163 = some zEJ) (t1 : Int) (d1 e1 : Dat) (hl : DSm d1 ∧ DSm e1) : zAj cx Tryz.f123 [] false [.it .i64 t1, datE d1, datE e1] = some (Res.flat (.it .i64 (cmpD t1 d1 e1))) := by
 have c165 := zAa h165
 have c163 := zAa h163
 have hl1 := hl.1; have hl2 := hl.2
 refine zAg (rs := [.tmp 6]) rfl hbs rfl ?_
 repeat' first
   | (refine zAR (fun h => ?_) (fun h => ?_) <;> (try simp only [cN] at h))
   | (refine zAN ?_ ?_)
   | simp only [↓cD, cU, cQ, cP, cB, zAJ, unD, zAf, zAd, idx, reduceCtorEq, ↓reduceIte, ofV, ofC, zAq, Nat.reduceEqDiff, zAG, cG, implies_true, forall_const, immL, immD, Res.flat, ren, renL, Int.reduceEq, Int.reduceLT, Int.reduceLE, Int.reduceNe, deref, ldD, zAF, zAk, zAI, zAs, cC, c165, c163, zAo, zAp, zSE, zOU, ↓zAM, ↓zAQ, ↓zAL, ↓zAP, ↓zAK, ↓zAO, cV, cT, cF, cW, borT, borM, zAm, Res.via, zAu, zAb, refsB, Nat.reduceLT, Nat.reduceSub, Nat.reduceLeDiff, Nat.reduceMul, Nat.reduceAdd, Int.reduceToNat, appK, zAr, zAc, borL, zAl, zAn, zAE, cO, List.replicate, zAC, ofHp, ixOf, hl1, hl2, hP, *]
 all_goals first
   | rfl
   | (simp [cmpD, *]; done)
   | (simp [cmpD, *]; omega)
theorem zMS (cx : Cx) (hP : cx.P = Tryz.prog) (hbs : cx.bs = 0) (h42 : cx.orc 42 = some zF1) (h88 : cx.orc 88 = some zG5) (h89 : cx.orc 89 = some FVD) (r1 : Rec) (hl : RSm r1) : zAj cx Tryz.f46 [] false [recE r1] = some (Res.flat (.bo (zBd r1))) := by
 have c42 := zAa h42
 have c88 := zAa h88
 have c89 := zAa h89
 have hl1 := hl.1; have hl2 := hl.2
 refine zAg (rs := [.tmp 2]) rfl hbs rfl ?_
 repeat' first
   | (refine zAR (fun h => ?_) (fun h => ?_) <;> (try simp only [cN] at h))
   | (refine zAN ?_ ?_)
   | simp only [↓cD, cU, cQ, cP, cB, zAJ, unD, zAf, zAd, idx, reduceCtorEq, ↓reduceIte, ofV, ofC, zAq, Nat.reduceEqDiff, zAG, cG, implies_true, forall_const, immL, immD, Res.flat, ren, renL, Int.reduceEq, Int.reduceLT, Int.reduceLE, Int.reduceNe, deref, ldD, zAF, zAk, zAI, zAs, cC, c42, c88, c89, zAo, zAp, zF0, zPS, zKx, ↓zAM, ↓zAQ, ↓zAL, ↓zAP, ↓zAK, ↓zAO, cV, cT, cF, cW, borT, borM, zAm, Res.via, zAu, zAb, refsB, Nat.reduceLT, Nat.reduceSub, Nat.reduceLeDiff, Nat.reduceMul, Nat.reduceAdd, Int.reduceToNat, appK, zAr, zAc, borL, zAl, zAn, zAE, cO, List.replicate, zAC, ofHp, ixOf, hl1, hl2, hP, *]
 all_goals first
   | rfl
   | (simp [zBd, *]; done)
   | (simp [zBd, *]; omega)
noncomputable def FNaN := mkF (fun s : Int => [.it .i64 s]) (fun s => True) (fun s => Res.flat (.bo false))
theorem yG3 {a1 : Int} : FNaN [.it .i64 a1] = some (Res.flat (.bo false)) := zAB (s := (a1)) (fun s s' h => by simp only [cI] at h; simp only [h]) trivial
theorem zM7 (cx : Cx) (hP : cx.P = Tryz.prog) (hbs : cx.bs = 0) (a1 : Int)  : zAj cx Tryz.f148 [] false [.it .i64 a1] = some (Res.flat (.bo false)) := by
 refine zAg (rs := [.tmp 2]) rfl hbs rfl ?_
 repeat' first
   | (refine zAR (fun h => ?_) (fun h => ?_) <;> (try simp only [cN] at h))
   | (refine zAN ?_ ?_)
   | simp only [↓cD, cU, cQ, cP, cB, zAJ, unD, zAf, zAd, idx, reduceCtorEq, ↓reduceIte, ofV, ofC, zAq, Nat.reduceEqDiff, zAG, cG, implies_true, forall_const, immL, immD, Res.flat, ren, renL, Int.reduceEq, Int.reduceLT, Int.reduceLE, Int.reduceNe, deref, ldD, zAF, zAk, zAI, zAs, cC, ↓zAM, ↓zAQ, ↓zAL, ↓zAP, ↓zAK, ↓zAO, cV, cT, cF, cW, borT, borM, zAm, Res.via, zAu, zAb, refsB, Nat.reduceLT, Nat.reduceSub, Nat.reduceLeDiff, Nat.reduceMul, Nat.reduceAdd, Int.reduceToNat, appK, zAr, zAc, borL, zAl, zAn, zAE, cO, List.replicate, zAC, ofHp, ixOf, hP, *]
 all_goals first
   | rfl
   | (simp [numC, *]; done)
   | (simp [numC, *]; omega)
theorem zHm (cx : Cx) (hP : cx.P = Tryz.prog) (hbs : cx.bs = 0) (h148 : cx.orc 148 = some FNaN) (a1 b1 : Int)  : zAj cx Tryz.f111 [] false [.it .i64 a1, .it .i64 b1] = some (Res.flat (.it .i64 (numC a1 b1))) := by
 have c148 := zAa h148
 refine zAg (rs := [.tmp 4]) rfl hbs rfl ?_
 repeat' first
   | (refine zAR (fun h => ?_) (fun h => ?_) <;> (try simp only [cN] at h))
   | (refine zAN ?_ ?_)
   | simp only [↓cD, cU, cQ, cP, cB, zAJ, unD, zAf, zAd, idx, reduceCtorEq, ↓reduceIte, ofV, ofC, zAq, Nat.reduceEqDiff, zAG, cG, implies_true, forall_const, immL, immD, Res.flat, ren, renL, Int.reduceEq, Int.reduceLT, Int.reduceLE, Int.reduceNe, deref, ldD, zAF, zAk, zAI, zAs, cC, c148, zAo, zAp, yG3, ↓zAM, ↓zAQ, ↓zAL, ↓zAP, ↓zAK, ↓zAO, cV, cT, cF, cW, borT, borM, zAm, Res.via, zAu, zAb, refsB, Nat.reduceLT, Nat.reduceSub, Nat.reduceLeDiff, Nat.reduceMul, Nat.reduceAdd, Int.reduceToNat, appK, zAr, zAc, borL, zAl, zAn, zAE, cO, List.replicate, zAC, ofHp, ixOf, hP, *]
 all_goals first
   | rfl
   | (simp [numC, *]; done)
   | (simp [numC, *]; omega)
theorem zFV (cx : Cx) (hP : cx.P = Tryz.prog) (hbs : cx.bs = 0) (h122 : cx.orc 122 = some zJa) (h111 : cx.orc 111 = some zHa) (h123 : cx.orc 123 = some FCD) (r1 r2 : Rec) (hl : RSm r1 ∧ RSm r2) : zAj cx Tryz.f93 [] false [recE r1, recE r2] = some (Res.flat (.it .i64 (zAy r1 r2))) := by
 have c122 := zAa h122
 have c111 := zAa h111
 have c123 := zAa h123
 have hl1 := hl.1.1; have hl2 := hl.1.2; have hl3 := hl.2.1; have hl4 := hl.2.2; have hl5 := hl.1; have hl6 := hl.2
 refine zAg (rs := [.tmp 4]) rfl hbs rfl ?_
 repeat' first
   | (refine zAR (fun h => ?_) (fun h => ?_) <;> (try simp only [cN] at h))
   | (refine zAN ?_ ?_)
   | simp only [↓cD, cU, cQ, cP, cB, zAJ, unD, zAf, zAd, idx, reduceCtorEq, ↓reduceIte, ofV, ofC, zAq, Nat.reduceEqDiff, zAG, cG, implies_true, forall_const, immL, immD, Res.flat, ren, renL, Int.reduceEq, Int.reduceLT, Int.reduceLE, Int.reduceNe, deref, ldD, zAF, zAk, zAI, zAs, cC, c122, c111, c123, zAo, zAp, zMj, zGp, zSN, ↓zAM, ↓zAQ, ↓zAL, ↓zAP, ↓zAK, ↓zAO, cV, cT, cF, cW, borT, borM, zAm, Res.via, zAu, zAb, refsB, Nat.reduceLT, Nat.reduceSub, Nat.reduceLeDiff, Nat.reduceMul, Nat.reduceAdd, Int.reduceToNat, appK, zAr, zAc, borL, zAl, zAn, zAE, cO, List.replicate, zAC, ofHp, ixOf, hl1, hl2, hl3, hl4, hP, *]
 all_goals first
   | rfl
   | (simp [zAy, *]; done)
   | (simp [zAy, *]; omega)
theorem zHA (cx : Cx) (hP : cx.P = Tryz.prog) (hbs : cx.bs = 0) (h93 : cx.orc 93 = some zEb) (h111 : cx.orc 111 = some zHa) (r1 r2 : Rec) (hl : RSm r1 ∧ RSm r2) : zAj cx Tryz.f80 [] false [recE r1, recE r2] = some (Res.flat (.it .i64 (cmpR r1 r2))) := by
 have c93 := zAa h93
 have c111 := zAa h111
 have hl1 := hl.1.1; have hl2 := hl.1.2; have hl3 := hl.2.1; have hl4 := hl.2.2; have hl5 := hl.1; have hl6 := hl.2
 refine zAg (rs := [.tmp 4]) rfl hbs rfl ?_
 repeat' first
   | (refine zAR (fun h => ?_) (fun h => ?_) <;> (try simp only [cN] at h))
   | (refine zAN ?_ ?_)
   | simp only [↓cD, cU, cQ, cP, cB, zAJ, unD, zAf, zAd, idx, reduceCtorEq, ↓reduceIte, ofV, ofC, zAq, Nat.reduceEqDiff, zAG, cG, implies_true, forall_const, immL, immD, Res.flat, ren, renL, Int.reduceEq, Int.reduceLT, Int.reduceLE, Int.reduceNe, deref, ldD, zAF, zAk, zAI, zAs, cC, c93, c111, zAo, zAp, zEt, zGp, ↓zAM, ↓zAQ, ↓zAL, ↓zAP, ↓zAK, ↓zAO, cV, cT, cF, cW, borT, borM, zAm, Res.via, zAu, zAb, refsB, Nat.reduceLT, Nat.reduceSub, Nat.reduceLeDiff, Nat.reduceMul, Nat.reduceAdd, Int.reduceToNat, appK, zAr, zAc, borL, zAl, zAn, zAE, cO, List.replicate, zAC, ofHp, ixOf, hl5, hl6, hP, *]
 all_goals first
   | rfl
   | (simp [cmpR, *]; done)
   | (simp [cmpR, *]; omega)
theorem zFG {z z' : Zone} : (D.elt (zDo z) = D.elt (zDo z')) = (z = z') := by
 have h := zNt z z'
 rw [← h]; simp only [zAU, D.agg.injEq, D.elt.injEq]
theorem zHR {k : IntKind} {a b : Int} : (D.elt [.it k a] = D.elt [.it k b]) = (a = b) := by simp only [D.elt.injEq, List.cons.injEq, D.it.injEq, true_and, and_true]
theorem zFH {a b : List Int} : (D.elt [zGk a] = D.elt [zGk b]) = (a = b) := by simp only [D.elt.injEq, List.cons.injEq, zVe, and_true]
theorem zL5 {α : Type} {p : α → Bool} {l : List α} : decide (0 ≤ zDi p l) = l.any p := by
 unfold zDi
 cases h : l.any p <;> simp
def inI (v : List Int) (x : Int) : Bool := v.any fun y => decide (x = y)
def soaX (z : Zone) (r : Rec) : Bool := if r.typ = 6 then r.name == z.origin else false
def hasX (n : Int) (r : Rec) : Bool := decide (r.typ = n)
def onlX (v : List Int) (r : Rec) : Bool := !inI v r.typ
def badX (r : Rec) : Bool := !zBd r
def hasT (l : List Rec) (n : Int) : Bool := l.any (hasX n)
def onlyT (l : List Rec) (v : List Int) : Bool := !l.any (onlX v)

noncomputable def FIxI := mkF (fun s : (List Int) × Int => [zGk s.1, .it .i64 s.2]) (fun s => s.1.length ≤ 1000000) (fun s => Res.flat (.it .i64 (zDi (fun y => decide (s.2 = y)) s.1)))
theorem yG5 {v : List Int} {n1 : Int} (hp : v.length ≤ 1000000) : FIxI [zGk v, .it .i64 n1] = some (Res.flat (.it .i64 (zDi (fun y => decide (n1 = y)) v))) := zAB (s := (v, n1)) (fun s s' h => by simp only [cI] at h; simp only [h]) hp
theorem zM9 (cx : Cx) (hP : cx.P = Tryz.prog) (hbs : cx.bs = 0) (hk2 : cx.kp 2 = some [0, 1, 7, 8]) (v : List Int) (n1 : Int) (hl : v.length ≤ 1000000) : zAj cx Tryz.f166 [] false [zGk v, .it .i64 n1] = some (Res.flat (.it .i64 (zDi (fun y => decide (n1 = y)) v))) := by
 have hw : ∀ k : Nat, (k : Int) < v.length → IntKind.i64.wrap ((k : Int) + 1) = ((k + 1 : Nat) : Int) := zBL (by omega)
 refine zAg (rs := [.tmp 4]) rfl hbs rfl ?_
 repeat' first
   | (refine zAY (σ := Nat) (fun s2 => [zGk v, .it .i64 n1, .it .i64 v.length, .it .i64 s2]) (fun s2 => s2 ≤ v.length ∧ (v.take s2).any (fun y => decide (n1 = y)) = false) (fun s2 => v.length - s2) [0, 1, 7, 8] hbs (by exact hk2) (fun s2 => by simp only [zAv, refs, zBb, zBc, zBe, List.append_nil]) (fun s2 j2 => ?_) (s := 0) ?_ ?_)
   | (refine zAR (fun h => ?_) (fun h => ?_) <;> (try simp only [cN] at h))
   | (refine zAN ?_ ?_)
   | simp only [↓cD, cU, cQ, cP, cB, zAJ, unD, zAf, zAd, idx, reduceCtorEq, ↓reduceIte, ofV, ofC, zAq, Nat.reduceEqDiff, zAG, cG, implies_true, forall_const, immL, immD, Res.flat, ren, renL, Int.reduceEq, Int.reduceLT, Int.reduceLE, Int.reduceNe, deref, ldD, zAF, zAk, zAI, zAs, cC, ↓zAM, ↓zAQ, ↓zAL, ↓zAP, ↓zAK, ↓zAO, cV, cT, cF, cW, borT, borM, zAm, Res.via, zAu, zAb, refsB, Nat.reduceLT, Nat.reduceSub, Nat.reduceLeDiff, Nat.reduceMul, Nat.reduceAdd, Int.reduceToNat, appK, zAr, zAc, borL, zAl, zAn, zAE, cO, List.replicate, zAC, ofHp, ixOf, hw, hP, *]
 all_goals first
   | rfl
   | omega
   | exact ⟨Nat.zero_le _, rfl⟩
   | (refine ⟨_, rfl, ⟨by omega, by rw [zEv (by omega), j2.2, Bool.false_or]; exact decide_eq_false ‹_›⟩, by omega⟩)
   | (have hq : n1 = v[s2]! := ‹_›; have e := zL4 (p := fun y => decide (n1 = y)) j2.2 (by omega) (decide_eq_true hq); simp only [hq] at e; rw [e])
   | (rw [zAW (by omega)] at j2; rw [zFF j2.2])
noncomputable def FCoI := mkF (fun s : (List Int) × Int => [zGk s.1, .it .i64 s.2]) (fun s => s.1.length ≤ 1000000) (fun s => Res.flat (.bo (inI s.1 s.2)))
theorem yHa {v : List Int} {n1 : Int} (hp : v.length ≤ 1000000) : FCoI [zGk v, .it .i64 n1] = some (Res.flat (.bo (inI v n1))) := zAB (s := (v, n1)) (fun s s' h => by simp only [cI] at h; simp only [h]) hp
theorem zNh (cx : Cx) (hP : cx.P = Tryz.prog) (hbs : cx.bs = 0) (h166 : cx.orc 166 = some FIxI) (v : List Int) (n1 : Int) (hl : v.length ≤ 1000000) : zAj cx Tryz.f126 [] false [zGk v, .it .i64 n1] = some (Res.flat (.bo (inI v n1))) := by
 have c166 := zAa h166
 refine zAg (rs := [.tmp 4]) rfl hbs rfl ?_
 repeat' first
   | (refine zAR (fun h => ?_) (fun h => ?_) <;> (try simp only [cN] at h))
   | (refine zAN ?_ ?_)
   | simp only [↓cD, cU, cQ, cP, cB, zAJ, unD, zAf, zAd, idx, reduceCtorEq, ↓reduceIte, ofV, ofC, zAq, Nat.reduceEqDiff, zAG, cG, implies_true, forall_const, immL, immD, Res.flat, ren, renL, Int.reduceEq, Int.reduceLT, Int.reduceLE, Int.reduceNe, deref, ldD, zAF, zAk, zAI, zAs, cC, c166, zAo, zAp, yG5, ↓zAM, ↓zAQ, ↓zAL, ↓zAP, ↓zAK, ↓zAO, cV, cT, cF, cW, borT, borM, zAm, Res.via, zAu, zAb, refsB, Nat.reduceLT, Nat.reduceSub, Nat.reduceLeDiff, Nat.reduceMul, Nat.reduceAdd, Int.reduceToNat, appK, zAr, zAc, borL, zAl, zAn, zAE, cO, List.replicate, zAC, ofHp, ixOf, zL5, hP, *]
 all_goals first
   | rfl
noncomputable def zPp := mkF (fun s : Rec × Int => [recE s.1, .elt [.it .i64 s.2]]) (fun s => True) (fun s => Res.flat (.bo (hasX s.2 s.1)))
theorem yDp {r1 : Rec} {n1 : Int} : zPp [recE r1, .elt [.it .i64 n1]] = some (Res.flat (.bo (hasX n1 r1))) := zAB (s := (r1, n1)) (fun s s' h => by simp only [cI, zFG, zHR, zFH, D.fn.injEq] at h; simp only [h]) trivial
theorem zJI (cx : Cx) (hP : cx.P = Tryz.prog) (hbs : cx.bs = 0) (r1 : Rec) (n1 : Int)  : zAj cx Tryz.f97 [] false [recE r1, .elt [.it .i64 n1]] = some (Res.flat (.bo (hasX n1 r1))) := by
 refine zAg (rs := [.tmp 3]) rfl hbs rfl ?_
 repeat' first
   | (refine zAR (fun h => ?_) (fun h => ?_) <;> (try simp only [cN] at h))
   | (refine zAN ?_ ?_)
   | simp only [↓cD, cU, cQ, cP, cB, zAJ, unD, zAf, zAd, idx, reduceCtorEq, ↓reduceIte, ofV, ofC, zAq, Nat.reduceEqDiff, zAG, cG, implies_true, forall_const, immL, immD, Res.flat, ren, renL, Int.reduceEq, Int.reduceLT, Int.reduceLE, Int.reduceNe, deref, ldD, zAF, zAk, zAI, zAs, cC, ↓zAM, ↓zAQ, ↓zAL, ↓zAP, ↓zAK, ↓zAO, cV, cT, cF, cW, borT, borM, zAm, Res.via, zAu, zAb, refsB, Nat.reduceLT, Nat.reduceSub, Nat.reduceLeDiff, Nat.reduceMul, Nat.reduceAdd, Int.reduceToNat, appK, zAr, zAc, borL, zAl, zAn, zAE, cO, List.replicate, zAC, ofHp, ixOf, hP, *]
 all_goals first
   | rfl
noncomputable def zPk := mkF (fun s : Rec × (List Int) => [recE s.1, .elt [zGk s.2]]) (fun s => s.2.length ≤ 1000000) (fun s => Res.flat (.bo (onlX s.2 s.1)))
theorem yDk {r1 : Rec} {v : List Int} (hp : v.length ≤ 1000000) : zPk [recE r1, .elt [zGk v]] = some (Res.flat (.bo (onlX v r1))) := zAB (s := (r1, v)) (fun s s' h => by simp only [cI, zFG, zHR, zFH, D.fn.injEq] at h; simp only [h]) hp
theorem zJx (cx : Cx) (hP : cx.P = Tryz.prog) (hbs : cx.bs = 0) (h126 : cx.orc 126 = some FCoI) (r1 : Rec) (v : List Int) (hl : v.length ≤ 1000000) : zAj cx Tryz.f125 [] false [recE r1, .elt [zGk v]] = some (Res.flat (.bo (onlX v r1))) := by
 have c126 := zAa h126
 refine zAg (rs := [.tmp 3]) rfl hbs rfl ?_
 repeat' first
   | (refine zAR (fun h => ?_) (fun h => ?_) <;> (try simp only [cN] at h))
   | (refine zAN ?_ ?_)
   | simp only [↓cD, cU, cQ, cP, cB, zAJ, unD, zAf, zAd, idx, reduceCtorEq, ↓reduceIte, ofV, ofC, zAq, Nat.reduceEqDiff, zAG, cG, implies_true, forall_const, immL, immD, Res.flat, ren, renL, Int.reduceEq, Int.reduceLT, Int.reduceLE, Int.reduceNe, deref, ldD, zAF, zAk, zAI, zAs, cC, c126, zAo, zAp, yHa, ↓zAM, ↓zAQ, ↓zAL, ↓zAP, ↓zAK, ↓zAO, cV, cT, cF, cW, borT, borM, zAm, Res.via, zAu, zAb, refsB, Nat.reduceLT, Nat.reduceSub, Nat.reduceLeDiff, Nat.reduceMul, Nat.reduceAdd, Int.reduceToNat, appK, zAr, zAc, borL, zAl, zAn, zAE, cO, List.replicate, zAC, ofHp, ixOf, hP, *]
 all_goals first
   | rfl
noncomputable def zPs := mkF (fun s : Rec => [recE s]) (fun s => RSm s) (fun s => Res.flat (.bo (badX s)))
theorem yDt {r1 : Rec} (hp : RSm r1) : zPs [recE r1] = some (Res.flat (.bo (badX r1))) := zAB (s := (r1)) (fun s s' h => by simp only [cI] at h; simp only [h]) hp
theorem zJP (cx : Cx) (hP : cx.P = Tryz.prog) (hbs : cx.bs = 0) (h46 : cx.orc 46 = some FVR) (r1 : Rec) (hl : RSm r1) : zAj cx Tryz.f45 [] false [recE r1] = some (Res.flat (.bo (badX r1))) := by
 have c46 := zAa h46
 refine zAg (rs := [.tmp 2]) rfl hbs rfl ?_
 repeat' first
   | (refine zAR (fun h => ?_) (fun h => ?_) <;> (try simp only [cN] at h))
   | (refine zAN ?_ ?_)
   | simp only [↓cD, cU, cQ, cP, cB, zAJ, unD, zAf, zAd, idx, reduceCtorEq, ↓reduceIte, ofV, ofC, zAq, Nat.reduceEqDiff, zAG, cG, implies_true, forall_const, immL, immD, Res.flat, ren, renL, Int.reduceEq, Int.reduceLT, Int.reduceLE, Int.reduceNe, deref, ldD, zAF, zAk, zAI, zAs, cC, c46, zAo, zAp, zMg, ↓zAM, ↓zAQ, ↓zAL, ↓zAP, ↓zAK, ↓zAO, cV, cT, cF, cW, borT, borM, zAm, Res.via, zAu, zAb, refsB, Nat.reduceLT, Nat.reduceSub, Nat.reduceLeDiff, Nat.reduceMul, Nat.reduceAdd, Int.reduceToNat, appK, zAr, zAc, borL, zAl, zAn, zAE, cO, List.replicate, zAC, ofHp, ixOf, hP, *]
 all_goals first
   | rfl
noncomputable def zPi := mkF (fun s : Rec × Zone => [recE s.1, .elt (zDo s.2)]) (fun s => True) (fun s => Res.flat (.bo (soaX s.2 s.1)))
theorem yDh {r1 : Rec} {z : Zone} : zPi [recE r1, .elt (zDo z)] = some (Res.flat (.bo (soaX z r1))) := zAB (s := (r1, z)) (fun s s' h => by simp only [cI, zFG, zHR, zFH, D.fn.injEq] at h; simp only [h]) trivial
theorem zJt (cx : Cx) (hP : cx.P = Tryz.prog) (hbs : cx.bs = 0) (r1 : Rec) (z : Zone)  : zAj cx Tryz.f98 [] false [recE r1, .elt (zDo z)] = some (Res.flat (.bo (soaX z r1))) := by
 refine zAg (rs := [.tmp 3]) rfl hbs rfl ?_
 repeat' first
   | (refine zAR (fun h => ?_) (fun h => ?_) <;> (try simp only [cN] at h))
   | (refine zAN ?_ ?_)
   | simp only [↓cD, cU, cQ, cP, cB, zAJ, unD, zAf, zAd, idx, reduceCtorEq, ↓reduceIte, ofV, ofC, zAq, Nat.reduceEqDiff, zAG, cG, implies_true, forall_const, immL, immD, Res.flat, ren, renL, Int.reduceEq, Int.reduceLT, Int.reduceLE, Int.reduceNe, deref, ldD, zAF, zAk, zAI, zAs, cC, ↓zAM, ↓zAQ, ↓zAL, ↓zAP, ↓zAK, ↓zAO, cV, cT, cF, cW, borT, borM, zAm, Res.via, zAu, zAb, refsB, Nat.reduceLT, Nat.reduceSub, Nat.reduceLeDiff, Nat.reduceMul, Nat.reduceAdd, Int.reduceToNat, appK, zAr, zAc, borL, zAl, zAn, zAE, cO, List.replicate, zAC, ofHp, ixOf, hP, *]
 all_goals first
   | rfl
   | (simp only [soaX, *, if_true, if_false]; done)
noncomputable def zKD := mkF (fun s : (List Rec) × Int => [zAt s.1, .fn (.func 97) [] [.elt [.it .i64 s.2]]]) (fun s => s.1.length ≤ 1000000) (fun s => Res.flat (.it .i64 (zDi (hasX s.2) s.1)))
theorem yAN {a : List Rec} {n1 : Int} (hp : a.length ≤ 1000000) : zKD [zAt a, .fn (.func 97) [] [.elt [.it .i64 n1]]] = some (Res.flat (.it .i64 (zDi (hasX n1) a))) := zAB (s := (a, n1)) (fun s s' h => by simp only [cI, zFG, zHR, zFH, D.fn.injEq] at h; simp only [h]) hp
theorem zHu (cx : Cx) (hP : cx.P = Tryz.prog) (hbs : cx.bs = 0) (h97 : cx.orc 97 = some zPp) (hk2 : cx.kp 2 = some [0, 1, 7, 8]) (a : List Rec) (n1 : Int) (hl : a.length ≤ 1000000) : zAj cx Tryz.f87 [] false [zAt a, .fn (.func 97) [] [.elt [.it .i64 n1]]] = some (Res.flat (.it .i64 (zDi (hasX n1) a))) := by
 have c97 := zAa h97
 have hl0 : a.length ≤ 1000000 := hl
 have hl2 := hl
 have hw : ∀ k : Nat, (k : Int) < a.length → IntKind.i64.wrap ((k : Int) + 1) = ((k + 1 : Nat) : Int) := zBL (by omega)
 have hs : True := trivial
 refine zAg (rs := [.tmp 4]) rfl hbs rfl ?_
 repeat' first
   | (refine zAY (σ := Nat) (fun s2 => [zAt a, .fn (.func 97) [] [.elt [.it .i64 n1]], .it .i64 a.length, .it .i64 s2]) (fun s2 => s2 ≤ a.length ∧ (a.take s2).any (hasX n1) = false) (fun s2 => a.length - s2) [0, 1, 7, 8] hbs (by exact hk2) (fun s2 => by simp only [zAv, refs, zBb, zBc, zBe, List.append_nil]) (fun s2 j2 => ?_) (s := 0) ?_ ?_)
   | (refine zAR (fun h => ?_) (fun h => ?_) <;> (try simp only [cN] at h))
   | (refine zAN ?_ ?_)
   | simp only [↓cD, cU, cQ, cP, cB, zAJ, unD, zAf, zAd, idx, reduceCtorEq, ↓reduceIte, ofV, ofC, zAq, Nat.reduceEqDiff, zAG, cG, implies_true, forall_const, immL, immD, Res.flat, ren, renL, Int.reduceEq, Int.reduceLT, Int.reduceLE, Int.reduceNe, deref, ldD, zAF, zAk, zAI, zAs, cC, c97, zAo, zAp, yDp, ↓zAM, ↓zAQ, ↓zAL, ↓zAP, ↓zAK, ↓zAO, cV, cT, cF, cW, borT, borM, zAm, Res.via, zAu, zAb, refsB, Nat.reduceLT, Nat.reduceSub, Nat.reduceLeDiff, Nat.reduceMul, Nat.reduceAdd, Int.reduceToNat, appK, zAr, zAc, borL, zAl, zAn, zAE, cO, List.replicate, zAC, ofHp, ixOf, hw, hl2, hs, hP, *]
 all_goals first
   | rfl
   | omega
   | exact ⟨Nat.zero_le _, rfl⟩
   | (refine ⟨_, rfl, ⟨by omega, by rw [zEv (by omega), j2.2, Bool.false_or]; exact ‹_›⟩, by omega⟩)
   | (rw [zL4 j2.2 (by omega) ‹_›])
   | (rw [zAW (by omega)] at j2; rw [zFF j2.2])
noncomputable def zKH := mkF (fun s : (List Rec) × Int => [zAt s.1, .fn (.func 97) [] [.elt [.it .i64 s.2]]]) (fun s => s.1.length ≤ 1000000) (fun s => Res.flat (.bo (s.1.any (hasX s.2))))
theorem yAS {a : List Rec} {n1 : Int} (hp : a.length ≤ 1000000) : zKH [zAt a, .fn (.func 97) [] [.elt [.it .i64 n1]]] = some (Res.flat (.bo (a.any (hasX n1)))) := zAB (s := (a, n1)) (fun s s' h => by simp only [cI, zFG, zHR, zFH, D.fn.injEq] at h; simp only [h]) hp
theorem zHy (cx : Cx) (hP : cx.P = Tryz.prog) (hbs : cx.bs = 0) (h87 : cx.orc 87 = some zKD) (a : List Rec) (n1 : Int) (hl : a.length ≤ 1000000) : zAj cx Tryz.f44 [] false [zAt a, .fn (.func 97) [] [.elt [.it .i64 n1]]] = some (Res.flat (.bo (a.any (hasX n1)))) := by
 have c87 := zAa h87
 refine zAg (rs := [.tmp 4]) rfl hbs rfl ?_
 repeat' first
   | (refine zAR (fun h => ?_) (fun h => ?_) <;> (try simp only [cN] at h))
   | (refine zAN ?_ ?_)
   | simp only [↓cD, cU, cQ, cP, cB, zAJ, unD, zAf, zAd, idx, reduceCtorEq, ↓reduceIte, ofV, ofC, zAq, Nat.reduceEqDiff, zAG, cG, implies_true, forall_const, immL, immD, Res.flat, ren, renL, Int.reduceEq, Int.reduceLT, Int.reduceLE, Int.reduceNe, deref, ldD, zAF, zAk, zAI, zAs, cC, c87, zAo, zAp, yAN, ↓zAM, ↓zAQ, ↓zAL, ↓zAP, ↓zAK, ↓zAO, cV, cT, cF, cW, borT, borM, zAm, Res.via, zAu, zAb, refsB, Nat.reduceLT, Nat.reduceSub, Nat.reduceLeDiff, Nat.reduceMul, Nat.reduceAdd, Int.reduceToNat, appK, zAr, zAc, borL, zAl, zAn, zAE, cO, List.replicate, zAC, ofHp, ixOf, zKu, zHU, zI2, zKv, zI1, zFI, zGX, zHV, zE1, zEk, zL5, hP, *]
 all_goals first
   | rfl
noncomputable def zO2 := mkF (fun s : (List Rec) × Int => [zAt s.1, .it .i64 s.2]) (fun s => s.1.length ≤ 1000000) (fun s => Res.flat (.bo (hasT s.1 s.2)))
theorem zVT {a : List Rec} {n1 : Int} (hp : a.length ≤ 1000000) : zO2 [zAt a, .it .i64 n1] = some (Res.flat (.bo (hasT a n1))) := zAB (s := (a, n1)) (fun s s' h => by simp only [cI] at h; simp only [h]) hp
theorem zJJ (cx : Cx) (hP : cx.P = Tryz.prog) (hbs : cx.bs = 0) (h44 : cx.orc 44 = some zKH) (a : List Rec) (n1 : Int) (hl : a.length ≤ 1000000) : zAj cx Tryz.f52 [] false [zAt a, .it .i64 n1] = some (Res.flat (.bo (hasT a n1))) := by
 have c44 := zAa h44
 refine zAg (rs := [.tmp 4]) rfl hbs rfl ?_
 repeat' first
   | (refine zAR (fun h => ?_) (fun h => ?_) <;> (try simp only [cN] at h))
   | (refine zAN ?_ ?_)
   | simp only [↓cD, cU, cQ, cP, cB, zAJ, unD, zAf, zAd, idx, reduceCtorEq, ↓reduceIte, ofV, ofC, zAq, Nat.reduceEqDiff, zAG, cG, implies_true, forall_const, immL, immD, Res.flat, ren, renL, Int.reduceEq, Int.reduceLT, Int.reduceLE, Int.reduceNe, deref, ldD, zAF, zAk, zAI, zAs, cC, c44, zAo, zAp, yAS, ↓zAM, ↓zAQ, ↓zAL, ↓zAP, ↓zAK, ↓zAO, cV, cT, cF, cW, borT, borM, zAm, Res.via, zAu, zAb, refsB, Nat.reduceLT, Nat.reduceSub, Nat.reduceLeDiff, Nat.reduceMul, Nat.reduceAdd, Int.reduceToNat, appK, zAr, zAc, borL, zAl, zAn, zAE, cO, List.replicate, zAC, ofHp, ixOf, zKu, zHU, zI2, zKv, zI1, zFI, zGX, zHV, zE1, zEk, hP, *]
 all_goals first
   | rfl
noncomputable def zKC := mkF (fun s : (List Rec) × (List Int) => [zAt s.1, .fn (.func 125) [] [.elt [zGk s.2]]]) (fun s => s.1.length ≤ 1000000 ∧ s.2.length ≤ 1000000) (fun s => Res.flat (.it .i64 (zDi (onlX s.2) s.1)))
theorem yAM {a : List Rec} {v : List Int} (hp : a.length ≤ 1000000 ∧ v.length ≤ 1000000) : zKC [zAt a, .fn (.func 125) [] [.elt [zGk v]]] = some (Res.flat (.it .i64 (zDi (onlX v) a))) := zAB (s := (a, v)) (fun s s' h => by simp only [cI, zFG, zHR, zFH, D.fn.injEq] at h; simp only [h]) hp
theorem zHt (cx : Cx) (hP : cx.P = Tryz.prog) (hbs : cx.bs = 0) (h125 : cx.orc 125 = some zPk) (hk2 : cx.kp 2 = some [0, 1, 7, 8]) (a : List Rec) (v : List Int) (hl : a.length ≤ 1000000 ∧ v.length ≤ 1000000) : zAj cx Tryz.f87 [] false [zAt a, .fn (.func 125) [] [.elt [zGk v]]] = some (Res.flat (.it .i64 (zDi (onlX v) a))) := by
 have c125 := zAa h125
 have hl0 : a.length ≤ 1000000 := hl.1
 have hl2 := hl.2
 have hw : ∀ k : Nat, (k : Int) < a.length → IntKind.i64.wrap ((k : Int) + 1) = ((k + 1 : Nat) : Int) := zBL (by omega)
 have hs : True := trivial
 refine zAg (rs := [.tmp 4]) rfl hbs rfl ?_
 repeat' first
   | (refine zAY (σ := Nat) (fun s2 => [zAt a, .fn (.func 125) [] [.elt [zGk v]], .it .i64 a.length, .it .i64 s2]) (fun s2 => s2 ≤ a.length ∧ (a.take s2).any (onlX v) = false) (fun s2 => a.length - s2) [0, 1, 7, 8] hbs (by exact hk2) (fun s2 => by simp only [zAv, refs, zBb, zBc, zBe, List.append_nil]) (fun s2 j2 => ?_) (s := 0) ?_ ?_)
   | (refine zAR (fun h => ?_) (fun h => ?_) <;> (try simp only [cN] at h))
   | (refine zAN ?_ ?_)
   | simp only [↓cD, cU, cQ, cP, cB, zAJ, unD, zAf, zAd, idx, reduceCtorEq, ↓reduceIte, ofV, ofC, zAq, Nat.reduceEqDiff, zAG, cG, implies_true, forall_const, immL, immD, Res.flat, ren, renL, Int.reduceEq, Int.reduceLT, Int.reduceLE, Int.reduceNe, deref, ldD, zAF, zAk, zAI, zAs, cC, c125, zAo, zAp, yDk, ↓zAM, ↓zAQ, ↓zAL, ↓zAP, ↓zAK, ↓zAO, cV, cT, cF, cW, borT, borM, zAm, Res.via, zAu, zAb, refsB, Nat.reduceLT, Nat.reduceSub, Nat.reduceLeDiff, Nat.reduceMul, Nat.reduceAdd, Int.reduceToNat, appK, zAr, zAc, borL, zAl, zAn, zAE, cO, List.replicate, zAC, ofHp, ixOf, hw, hl2, hs, hP, *]
 all_goals first
   | rfl
   | omega
   | exact ⟨Nat.zero_le _, rfl⟩
   | (refine ⟨_, rfl, ⟨by omega, by rw [zEv (by omega), j2.2, Bool.false_or]; exact ‹_›⟩, by omega⟩)
   | (rw [zL4 j2.2 (by omega) ‹_›])
   | (rw [zAW (by omega)] at j2; rw [zFF j2.2])
noncomputable def zKG := mkF (fun s : (List Rec) × (List Int) => [zAt s.1, .fn (.func 125) [] [.elt [zGk s.2]]]) (fun s => s.1.length ≤ 1000000 ∧ s.2.length ≤ 1000000) (fun s => Res.flat (.bo (s.1.any (onlX s.2))))
theorem yAR {a : List Rec} {v : List Int} (hp : a.length ≤ 1000000 ∧ v.length ≤ 1000000) : zKG [zAt a, .fn (.func 125) [] [.elt [zGk v]]] = some (Res.flat (.bo (a.any (onlX v)))) := zAB (s := (a, v)) (fun s s' h => by simp only [cI, zFG, zHR, zFH, D.fn.injEq] at h; simp only [h]) hp
theorem zHx (cx : Cx) (hP : cx.P = Tryz.prog) (hbs : cx.bs = 0) (h87 : cx.orc 87 = some zKC) (a : List Rec) (v : List Int) (hl : a.length ≤ 1000000 ∧ v.length ≤ 1000000) : zAj cx Tryz.f44 [] false [zAt a, .fn (.func 125) [] [.elt [zGk v]]] = some (Res.flat (.bo (a.any (onlX v)))) := by
 have c87 := zAa h87
 refine zAg (rs := [.tmp 4]) rfl hbs rfl ?_
 repeat' first
   | (refine zAR (fun h => ?_) (fun h => ?_) <;> (try simp only [cN] at h))
   | (refine zAN ?_ ?_)
   | simp only [↓cD, cU, cQ, cP, cB, zAJ, unD, zAf, zAd, idx, reduceCtorEq, ↓reduceIte, ofV, ofC, zAq, Nat.reduceEqDiff, zAG, cG, implies_true, forall_const, immL, immD, Res.flat, ren, renL, Int.reduceEq, Int.reduceLT, Int.reduceLE, Int.reduceNe, deref, ldD, zAF, zAk, zAI, zAs, cC, c87, zAo, zAp, yAM, ↓zAM, ↓zAQ, ↓zAL, ↓zAP, ↓zAK, ↓zAO, cV, cT, cF, cW, borT, borM, zAm, Res.via, zAu, zAb, refsB, Nat.reduceLT, Nat.reduceSub, Nat.reduceLeDiff, Nat.reduceMul, Nat.reduceAdd, Int.reduceToNat, appK, zAr, zAc, borL, zAl, zAn, zAE, cO, List.replicate, zAC, ofHp, ixOf, zKu, zHU, zI2, zKv, zI1, zFI, zGX, zHV, zE1, zEk, zL5, hP, *]
 all_goals first
   | rfl
noncomputable def zML := mkF (fun s : (List Rec) × (List Int) => [zAt s.1, zGk s.2]) (fun s => s.1.length ≤ 1000000 ∧ s.2.length ≤ 1000000) (fun s => Res.flat (.bo (onlyT s.1 s.2)))
theorem zNR {a : List Rec} {v : List Int} (hp : a.length ≤ 1000000 ∧ v.length ≤ 1000000) : zML [zAt a, zGk v] = some (Res.flat (.bo (onlyT a v))) := zAB (s := (a, v)) (fun s s' h => by simp only [cI] at h; simp only [h]) hp
theorem zJy (cx : Cx) (hP : cx.P = Tryz.prog) (hbs : cx.bs = 0) (h44 : cx.orc 44 = some zKG) (a : List Rec) (v : List Int) (hl : a.length ≤ 1000000 ∧ v.length ≤ 1000000) : zAj cx Tryz.f96 [] false [zAt a, zGk v] = some (Res.flat (.bo (onlyT a v))) := by
 have c44 := zAa h44
 have hl1 := hl.1; have hl2 := hl.2
 refine zAg (rs := [.tmp 4]) rfl hbs rfl ?_
 repeat' first
   | (refine zAR (fun h => ?_) (fun h => ?_) <;> (try simp only [cN] at h))
   | (refine zAN ?_ ?_)
   | simp only [↓cD, cU, cQ, cP, cB, zAJ, unD, zAf, zAd, idx, reduceCtorEq, ↓reduceIte, ofV, ofC, zAq, Nat.reduceEqDiff, zAG, cG, implies_true, forall_const, immL, immD, Res.flat, ren, renL, Int.reduceEq, Int.reduceLT, Int.reduceLE, Int.reduceNe, deref, ldD, zAF, zAk, zAI, zAs, cC, c44, zAo, zAp, yAR, ↓zAM, ↓zAQ, ↓zAL, ↓zAP, ↓zAK, ↓zAO, cV, cT, cF, cW, borT, borM, zAm, Res.via, zAu, zAb, refsB, Nat.reduceLT, Nat.reduceSub, Nat.reduceLeDiff, Nat.reduceMul, Nat.reduceAdd, Int.reduceToNat, appK, zAr, zAc, borL, zAl, zAn, zAE, cO, List.replicate, zAC, ofHp, ixOf, zKu, zHU, zI2, zKv, zI1, zFI, zGX, zHV, zE1, zEk, hl1, hl2, hP, *]
 all_goals first
   | rfl
noncomputable def zKE := mkF (fun s : (List Rec) => [zAt s, .fn (.func 45) [] []]) (fun s => LSm s) (fun s => Res.flat (.it .i64 (zDi (badX) s)))
theorem yAO {a : List Rec} (hp : LSm a) : zKE [zAt a, .fn (.func 45) [] []] = some (Res.flat (.it .i64 (zDi (badX) a))) := zAB (s := (a)) (fun s s' h => by simp only [cI, zFG, zHR, zFH, D.fn.injEq] at h; simp only [h]) hp
theorem zHv (cx : Cx) (hP : cx.P = Tryz.prog) (hbs : cx.bs = 0) (h45 : cx.orc 45 = some zPs) (hk2 : cx.kp 2 = some [0, 1, 7, 8]) (a : List Rec) (hl : LSm a) : zAj cx Tryz.f87 [] false [zAt a, .fn (.func 45) [] []] = some (Res.flat (.it .i64 (zDi (badX) a))) := by
 have c45 := zAa h45
 have hl0 : a.length ≤ 1000000 := hl.1
 have hl2 := hl
 have hw : ∀ k : Nat, (k : Int) < a.length → IntKind.i64.wrap ((k : Int) + 1) = ((k + 1 : Nat) : Int) := zBL (by omega)
 have hs : ∀ k : Nat, (k : Int) < a.length → RSm a[k]! := fun k h => hl.at h
 refine zAg (rs := [.tmp 4]) rfl hbs rfl ?_
 repeat' first
   | (refine zAY (σ := Nat) (fun s2 => [zAt a, .fn (.func 45) [] [], .it .i64 a.length, .it .i64 s2]) (fun s2 => s2 ≤ a.length ∧ (a.take s2).any (badX) = false) (fun s2 => a.length - s2) [0, 1, 7, 8] hbs (by exact hk2) (fun s2 => by simp only [zAv, refs, zBb, zBc, zBe, List.append_nil]) (fun s2 j2 => ?_) (s := 0) ?_ ?_)
   | (refine zAR (fun h => ?_) (fun h => ?_) <;> (try simp only [cN] at h))
   | (refine zAN ?_ ?_)
   | simp only [↓cD, cU, cQ, cP, cB, zAJ, unD, zAf, zAd, idx, reduceCtorEq, ↓reduceIte, ofV, ofC, zAq, Nat.reduceEqDiff, zAG, cG, implies_true, forall_const, immL, immD, Res.flat, ren, renL, Int.reduceEq, Int.reduceLT, Int.reduceLE, Int.reduceNe, deref, ldD, zAF, zAk, zAI, zAs, cC, c45, zAo, zAp, yDt, ↓zAM, ↓zAQ, ↓zAL, ↓zAP, ↓zAK, ↓zAO, cV, cT, cF, cW, borT, borM, zAm, Res.via, zAu, zAb, refsB, Nat.reduceLT, Nat.reduceSub, Nat.reduceLeDiff, Nat.reduceMul, Nat.reduceAdd, Int.reduceToNat, appK, zAr, zAc, borL, zAl, zAn, zAE, cO, List.replicate, zAC, ofHp, ixOf, hw, hl2, hs, hP, *]
 all_goals first
   | rfl
   | omega
   | exact ⟨Nat.zero_le _, rfl⟩
   | (refine ⟨_, rfl, ⟨by omega, by rw [zEv (by omega), j2.2, Bool.false_or]; exact ‹_›⟩, by omega⟩)
   | (rw [zL4 j2.2 (by omega) ‹_›])
   | (rw [zAW (by omega)] at j2; rw [zFF j2.2])
noncomputable def zFh := mkF (fun s : (List Rec) => [zAt s, .fn (.func 45) [] []]) (fun s => LSm s) (fun s => Res.flat (.bo (s.any (badX))))
theorem zSM {a : List Rec} (hp : LSm a) : zFh [zAt a, .fn (.func 45) [] []] = some (Res.flat (.bo (a.any (badX)))) := zAB (s := (a)) (fun s s' h => by simp only [cI, zFG, zHR, zFH, D.fn.injEq] at h; simp only [h]) hp
theorem zHz (cx : Cx) (hP : cx.P = Tryz.prog) (hbs : cx.bs = 0) (h87 : cx.orc 87 = some zKE) (a : List Rec) (hl : LSm a) : zAj cx Tryz.f44 [] false [zAt a, .fn (.func 45) [] []] = some (Res.flat (.bo (a.any (badX)))) := by
 have c87 := zAa h87
 refine zAg (rs := [.tmp 4]) rfl hbs rfl ?_
 repeat' first
   | (refine zAR (fun h => ?_) (fun h => ?_) <;> (try simp only [cN] at h))
   | (refine zAN ?_ ?_)
   | simp only [↓cD, cU, cQ, cP, cB, zAJ, unD, zAf, zAd, idx, reduceCtorEq, ↓reduceIte, ofV, ofC, zAq, Nat.reduceEqDiff, zAG, cG, implies_true, forall_const, immL, immD, Res.flat, ren, renL, Int.reduceEq, Int.reduceLT, Int.reduceLE, Int.reduceNe, deref, ldD, zAF, zAk, zAI, zAs, cC, c87, zAo, zAp, yAO, ↓zAM, ↓zAQ, ↓zAL, ↓zAP, ↓zAK, ↓zAO, cV, cT, cF, cW, borT, borM, zAm, Res.via, zAu, zAb, refsB, Nat.reduceLT, Nat.reduceSub, Nat.reduceLeDiff, Nat.reduceMul, Nat.reduceAdd, Int.reduceToNat, appK, zAr, zAc, borL, zAl, zAn, zAE, cO, List.replicate, zAC, ofHp, ixOf, zKu, zHU, zI2, zKv, zI1, zFI, zGX, zHV, zE1, zEk, zL5, hP, *]
 all_goals first
   | rfl
noncomputable def zKB := mkF (fun s : (List Rec) × Zone => [zAt s.1, .fn (.func 98) [] [.elt (zDo s.2)]]) (fun s => s.1.length ≤ 1000000) (fun s => Res.flat (.it .i64 (zDi (soaX s.2) s.1)))
theorem yAL {a : List Rec} {z : Zone} (hp : a.length ≤ 1000000) : zKB [zAt a, .fn (.func 98) [] [.elt (zDo z)]] = some (Res.flat (.it .i64 (zDi (soaX z) a))) := zAB (s := (a, z)) (fun s s' h => by simp only [cI, zFG, zHR, zFH, D.fn.injEq] at h; simp only [h]) hp
theorem zHs (cx : Cx) (hP : cx.P = Tryz.prog) (hbs : cx.bs = 0) (h98 : cx.orc 98 = some zPi) (hk2 : cx.kp 2 = some [0, 1, 7, 8]) (a : List Rec) (z : Zone) (hl : a.length ≤ 1000000) : zAj cx Tryz.f87 [] false [zAt a, .fn (.func 98) [] [.elt (zDo z)]] = some (Res.flat (.it .i64 (zDi (soaX z) a))) := by
 have c98 := zAa h98
 have hl0 : a.length ≤ 1000000 := hl
 have hl2 := hl
 have hw : ∀ k : Nat, (k : Int) < a.length → IntKind.i64.wrap ((k : Int) + 1) = ((k + 1 : Nat) : Int) := zBL (by omega)
 have hs : True := trivial
 refine zAg (rs := [.tmp 4]) rfl hbs rfl ?_
 repeat' first
   | (refine zAY (σ := Nat) (fun s2 => [zAt a, .fn (.func 98) [] [.elt (zDo z)], .it .i64 a.length, .it .i64 s2]) (fun s2 => s2 ≤ a.length ∧ (a.take s2).any (soaX z) = false) (fun s2 => a.length - s2) [0, 1, 7, 8] hbs (by exact hk2) (fun s2 => by simp only [zAv, refs, zBb, zBc, zBe, List.append_nil]) (fun s2 j2 => ?_) (s := 0) ?_ ?_)
   | (refine zAR (fun h => ?_) (fun h => ?_) <;> (try simp only [cN] at h))
   | (refine zAN ?_ ?_)
   | simp only [↓cD, cU, cQ, cP, cB, zAJ, unD, zAf, zAd, idx, reduceCtorEq, ↓reduceIte, ofV, ofC, zAq, Nat.reduceEqDiff, zAG, cG, implies_true, forall_const, immL, immD, Res.flat, ren, renL, Int.reduceEq, Int.reduceLT, Int.reduceLE, Int.reduceNe, deref, ldD, zAF, zAk, zAI, zAs, cC, c98, zAo, zAp, yDh, ↓zAM, ↓zAQ, ↓zAL, ↓zAP, ↓zAK, ↓zAO, cV, cT, cF, cW, borT, borM, zAm, Res.via, zAu, zAb, refsB, Nat.reduceLT, Nat.reduceSub, Nat.reduceLeDiff, Nat.reduceMul, Nat.reduceAdd, Int.reduceToNat, appK, zAr, zAc, borL, zAl, zAn, zAE, cO, List.replicate, zAC, ofHp, ixOf, hw, hl2, hs, hP, *]
 all_goals first
   | rfl
   | omega
   | exact ⟨Nat.zero_le _, rfl⟩
   | (refine ⟨_, rfl, ⟨by omega, by rw [zEv (by omega), j2.2, Bool.false_or]; exact ‹_›⟩, by omega⟩)
   | (rw [zL4 j2.2 (by omega) ‹_›])
   | (rw [zAW (by omega)] at j2; rw [zFF j2.2])
noncomputable def FSix := mkF (fun s : Zone => [zAU s]) (fun s => s.recs.length ≤ 1000000) (fun s => Res.flat (.it .i64 (zDi (soaX s) s.recs)))
theorem yGZ {z : Zone} (hp : z.recs.length ≤ 1000000) : FSix [zAU z] = some (Res.flat (.it .i64 (zDi (soaX z) z.recs))) := zAB (s := (z)) (fun s s' h => by simp only [cI] at h; simp only [h]) hp
theorem zM1 (cx : Cx) (hP : cx.P = Tryz.prog) (hbs : cx.bs = 0) (h87 : cx.orc 87 = some zKB) (z : Zone) (hl : z.recs.length ≤ 1000000) : zAj cx Tryz.f54 [] false [zAU z] = some (Res.flat (.it .i64 (zDi (soaX z) z.recs))) := by
 have c87 := zAa h87
 refine zAg (rs := [.tmp 2]) rfl hbs rfl ?_
 repeat' first
   | (refine zAR (fun h => ?_) (fun h => ?_) <;> (try simp only [cN] at h))
   | (refine zAN ?_ ?_)
   | simp only [↓cD, cU, cQ, cP, cB, zAJ, unD, zAf, zAd, idx, reduceCtorEq, ↓reduceIte, ofV, ofC, zAq, Nat.reduceEqDiff, zAG, cG, implies_true, forall_const, immL, immD, Res.flat, ren, renL, Int.reduceEq, Int.reduceLT, Int.reduceLE, Int.reduceNe, deref, ldD, zAF, zAk, zAI, zAs, cC, c87, zAo, zAp, yAL, ↓zAM, ↓zAQ, ↓zAL, ↓zAP, ↓zAK, ↓zAO, cV, cT, cF, cW, borT, borM, zAm, Res.via, zAu, zAb, refsB, Nat.reduceLT, Nat.reduceSub, Nat.reduceLeDiff, Nat.reduceMul, Nat.reduceAdd, Int.reduceToNat, appK, zAr, zAc, borL, zAl, zAn, zAE, cO, List.replicate, zAC, ofHp, ixOf, zKu, zHU, zI2, zKv, zI1, zFI, zGX, zHV, zE1, zEk, hP, *]
 all_goals first
   | rfl
def zCQ (z : Zone) : Int := if 0 ≤ zDi (soaX z) z.recs then (z.recs[(zDi (soaX z) z.recs).toNat]!).dat.a else 0
noncomputable def zIR := mkF (fun s : Zone => [zAU s]) (fun s => s.recs.length ≤ 1000000) (fun s => Res.flat (.it .i64 (zCQ s)))
theorem zIQ {z : Zone} (hp : z.recs.length ≤ 1000000) : zIR [zAU z] = some (Res.flat (.it .i64 (zCQ z))) := zAB (s := (z)) (fun s s' h => by simp only [cI] at h; simp only [h]) hp
theorem zJu (cx : Cx) (hP : cx.P = Tryz.prog) (hbs : cx.bs = 0) (h54 : cx.orc 54 = some FSix) (z : Zone) (hl : z.recs.length ≤ 1000000) : zAj cx Tryz.f25 [] false [zAU z] = some (Res.flat (.it .i64 (zCQ z))) := by
 have c54 := zAa h54
 have hix : 0 ≤ zDi (soaX z) z.recs → ∀ (H : Hp) (k : IntKind), zA6 Tryz.prog H 22 (zAt z.recs) (.it k (zDi (soaX z) z.recs)) = some (.elt (recE z.recs[(zDi (soaX z) z.recs).toNat]!).cells) := fun h H k => by have h2 := yCD (p := soaX z) (l := z.recs); obtain ⟨j, hj⟩ := Int.eq_ofNat_of_zero_le h; rw [hj] at h2 ⊢; exact zNF Tryz.underlying22 sz53 rfl (by omega)
 refine zAg (rs := [.tmp 2]) rfl hbs rfl ?_
 repeat' first
   | (refine zAR (fun h => ?_) (fun h => ?_) <;> (try simp only [cN] at h))
   | (refine zAN ?_ ?_)
   | simp only [↓cD, cU, cQ, cP, cB, zAJ, unD, zAf, zAd, idx, reduceCtorEq, ↓reduceIte, ofV, ofC, zAq, Nat.reduceEqDiff, zAG, cG, implies_true, forall_const, immL, immD, Res.flat, ren, renL, Int.reduceEq, Int.reduceLT, Int.reduceLE, Int.reduceNe, deref, ldD, zAF, zAk, zAI, zAs, cC, c54, zAo, zAp, yGZ, ↓zAM, ↓zAQ, ↓zAL, ↓zAP, ↓zAK, ↓zAO, cV, cT, cF, cW, borT, borM, zAm, Res.via, zAu, zAb, refsB, Nat.reduceLT, Nat.reduceSub, Nat.reduceLeDiff, Nat.reduceMul, Nat.reduceAdd, Int.reduceToNat, appK, zAr, zAc, borL, zAl, zAn, zAE, cO, List.replicate, zAC, ofHp, ixOf, hix, hP, *]
 all_goals first
   | rfl
   | (rw [zCQ, if_pos ‹_›])
   | (rw [zCQ, if_neg ‹_›])
theorem yBr : single 46 = false := by decide
def uniF : List Rec → Bool
 | a :: b :: r => if ¬ b.typ = a.typ then uniF (b :: r) else if single b.typ = true then false else if ¬ b.typ = 46 ∧ ¬ b.ttl = a.ttl then false else uniF (b :: r)
 | _ => true
theorem yDD {l : List Rec} {s : Nat} (h : ((s + 1 : Nat) : Int) < l.length) : uniF (l.drop s) = if ¬ l[s + 1]!.typ = l[s]!.typ then uniF (l.drop (s + 1)) else if single l[s + 1]!.typ = true then false else if ¬ l[s + 1]!.typ = 46 ∧ ¬ l[s + 1]!.ttl = l[s]!.ttl then false else uniF (l.drop (s + 1)) := by
 rw [drop_at (zs := l) (by omega), drop_at (zs := l) (i := s + 1) (by omega)]; rfl
theorem yEr {l : List Rec} {s : Nat} (h : ¬ ((s + 1 : Nat) : Int) < l.length) : uniF (l.drop s) = true := by
 by_cases h2 : s < l.length
 · rw [drop_at (zs := l) (by omega), zBw (zs := l) (i := s + 1) (by omega)]; rfl
 · rw [zBw (zs := l) (by omega)]; rfl

noncomputable def FUni := mkF (fun s : (List Rec) => [zAt s]) (fun s => s.length ≤ 1000000) (fun s => Res.flat (.bo (uniF s)))
theorem yGV {a : List Rec} (hp : a.length ≤ 1000000) : FUni [zAt a] = some (Res.flat (.bo (uniF a))) := zAB (s := (a)) (fun s s' h => by simp only [cI] at h; simp only [h]) hp
theorem zMU (cx : Cx) (hP : cx.P = Tryz.prog) (hbs : cx.bs = 0) (h124 : cx.orc 124 = some zFK) (r124 : cx.rd.contains 124 = true) (hk2 : cx.kp 2 = some [0, 3]) (a : List Rec) (hl : a.length ≤ 1000000) : zAj cx Tryz.f95 [] false [zAt a] = some (Res.flat (.bo (uniF a))) := by
 have c124 := zAa h124
 have d124 := zAh r124 h124
 have hw : ∀ k : Nat, ((k + 1 : Nat) : Int) < a.length → IntKind.i64.wrap (((k + 1 : Nat) : Int) + 1) = ((k + 1 + 1 : Nat) : Int) := fun k h => by rw [wrap64 (by omega) (by omega)]; omega
 have hw1 : ∀ k : Nat, ((k + 1 : Nat) : Int) < a.length → IntKind.i64.wrap (((k + 1 : Nat) : Int) - 1) = (k : Int) := fun k h => by rw [wrap64 (by omega) (by omega)]; omega
 have hi1 : ∀ k : Nat, ((k + 1 : Nat) : Int) < a.length → (k : Int) < a.length := fun k h => by omega
 refine zAg (rs := [.tmp 2]) rfl hbs rfl ?_
 repeat' first
   | (refine zAY (σ := Nat) (fun s2 => [zAt a, .it .i64 ((s2 + 1 : Nat) : Int)]) (fun s2 => s2 ≤ a.length ∧ uniF (a.drop s2) = uniF a) (fun s2 => a.length - s2) [0, 3] hbs (by exact hk2) (fun s2 => by simp only [zAv, refs, zBb, zBc, zBe, List.append_nil]) (fun s2 j2 => ?_) (s := 0) ?_ ?_)
   | (refine zAR (fun h => ?_) (fun h => ?_) <;> (try simp only [cN] at h))
   | (refine zAN ?_ ?_)
   | simp (config := { decide := true }) only [↓cD, cU, cQ, cP, cB, zAJ, unD, zAf, zAd, idx, reduceCtorEq, ↓reduceIte, ofV, ofC, zAq, Nat.reduceEqDiff, zAG, cG, implies_true, forall_const, immL, immD, Res.flat, ren, renL, Int.reduceEq, Int.reduceLT, Int.reduceLE, Int.reduceNe, deref, ldD, zAF, zAk, zAI, zAs, cC, cS, refs, zAD, okId, List.all_nil, List.all_cons, Nat.reduceMul, Nat.reduceAdd, Nat.reduceLeDiff, zAv, c124, d124, zAo, zAp, zUr, ↓zAM, ↓zAQ, ↓zAL, ↓zAP, ↓zAK, ↓zAO, cV, cT, cF, cW, borT, borM, zAm, Res.via, zAu, zAb, refsB, Nat.reduceLT, Nat.reduceSub, Nat.reduceLeDiff, Nat.reduceMul, Nat.reduceAdd, Int.reduceToNat, appK, zAr, zAc, borL, zAl, zAn, zAE, cO, List.replicate, zAC, ofHp, ixOf, cS, refs, zAD, okId, List.all_nil, List.all_cons, Nat.reduceMul, Nat.reduceAdd, Nat.reduceLeDiff, zAv, hw, hw1, hi1, hP, *]
 all_goals first
   | rfl
   | omega
   | exact ⟨Nat.zero_le _, rfl⟩
   | (have e := j2.2; rw [yDD (by omega)] at e; refine ⟨_, rfl, ⟨by omega, by rw [← e]; simp only [*, yBr, if_false, if_true, Bool.false_eq_true, not_true_eq_false, not_false_eq_true, false_and, and_false, and_true, true_and]⟩, by omega⟩)
   | (have e := j2.2; rw [yDD (by omega)] at e; rw [← e]; simp only [*, if_true, if_false, not_true_eq_false, not_false_eq_true, and_self, Bool.false_eq_true]; done)
   | (have e := j2.2; rw [yEr (by omega)] at e; rw [← e])
abbrev zOi (g : List Rec) : D := .vec 16 true (g.map recE)
def grpS (l : List Rec) : Nat → Nat × List (List Rec)
 | 0 => (0, [])
 | i + 1 => if i + 1 = l.length ∨ ¬ l[i + 1]!.name = l[i]!.name then (i + 1, (grpS l i).2 ++ [(l.take (i + 1)).drop (grpS l i).1]) else grpS l i
def grpR (l : List Rec) : List (List Rec) := (grpS l l.length).2
theorem zTV (l : List Rec) : ∀ i, (grpS l i).1 ≤ i
 | 0 => Nat.le_refl _
 | i + 1 => by
   have := zTV l i
   unfold grpS; split
   · exact Nat.le_refl _
   · omega
theorem zQz (l : List Rec) : ∀ i, (grpS l i).2.length ≤ i
 | 0 => Nat.le_refl _
 | i + 1 => by
   have := zQz l i
   unfold grpS; split
   · simp only [List.length_append, List.length_cons, List.length_nil]; omega
   · omega
theorem zEu {l : List Rec} {i : Nat} (h : i + 1 = l.length ∨ ¬ l[i + 1]!.name = l[i]!.name) : grpS l (i + 1) = (i + 1, (grpS l i).2 ++ [(l.take (i + 1)).drop (grpS l i).1]) := by rw [grpS, if_pos h]
theorem zMx {l : List Rec} {i : Nat} (h : ¬ i + 1 = l.length) (h2 : l[i + 1]!.name = l[i]!.name) : grpS l (i + 1) = grpS l i := by rw [grpS, if_neg (by rintro (e | e); exact h e; exact e h2)]
theorem zQC {α : Type} (E : α → D) (hE : ∀ g, (E g).cells = [E g]) : ∀ gs : List α, flat (gs.map E) = gs.map E
 | [] => rfl
 | g :: r => by
   have ih := zQC E hE r
   unfold flat at ih ⊢
   rw [List.map_cons, List.flatMap_cons, hE, ih]; rfl
theorem zFX {M : Mem} {A : Nat → Prop} {H : Hp} {μ : Mu} {gs : List (List Rec)} {v : Value} (h : VR M (Leaf A H μ) (vecE 1 zOi gs) v) : VR M (Leaf A H μ) (vecE 1 zAt gs) v := by
 cases h with
 | leaf h => exact absurd h (by simp [Leaf, vecE])
 | imm h =>
   refine .imm ?_
   have f1 := zQC zOi (fun g => rfl) gs
   have f2 := zQC zAt (fun g => rfl) gs
   unfold vecE at h ⊢
   generalize hx : gs.map zOi = X at h
   cases h with
   | vec _ _ _ a c hc hcl hz hs us hm h1 hv =>
     subst hx
     have el : (gs.map zOi).length = (gs.map zAt).length := by simp
     rw [el] at hc ⊢
     refine .vec 1 false _ a c hc (fun h => by cases h) (fun e he => ?_) hs us (fun hne => ?_) (fun k hk => ?_) (fun k d hd => ?_)
     · obtain ⟨g, _, rfl⟩ := List.mem_map.1 he; rfl
     · obtain ⟨ad, e1, e2⟩ := hm (fun e => hne (by simpa using e))
       exact ⟨ad, e1, fun k hk => e2 k (by rw [f2] at hk; rw [f1]; simpa using hk)⟩
     · exact h1 k (by rw [f2] at hk; rw [f1]; simpa using hk)
     · rw [f2, List.getElem?_map, Option.map_eq_some_iff] at hd
       obtain ⟨g, hg, rfl⟩ := hd
       have h3 := hv k (zOi g) (by rw [f1, List.getElem?_map, hg]; rfl)
       generalize us k = u at h3 ⊢
       cases h3 with
       | vec _ _ _ a c hc hcl hz hs us hm h1 hv => exact .vec 16 false _ a c hc (fun h => by cases h) hz hs us hm h1 hv
theorem PureOK.weakr {P : Program} {g : FuncId} {F G : List D → Option Res} (h : PureOK P g G) (hF : ∀ ds r', F ds = some r' → ∃ r, G ds = some r ∧ r.al = r'.al ∧ r.hs = r'.hs ∧ ∀ M A H μ v, VR M (Leaf A H μ) r.r v → VR M (Leaf A H μ) r'.r v) : PureOK P g F := by
 refine ⟨h.1, fun ds r' hr => ?_⟩
 obtain ⟨r, h1, h2, h3, h4⟩ := hF ds r' hr
 obtain ⟨k1, k2⟩ := h.2 ds r h1
 refine ⟨by rw [← h3]; exact k1, fun M w vs hmem hl hv => ?_⟩
 have k3 := k2 M w vs hmem hl hv
 rw [h2, h3] at k3
 refine k3.mono fun e w' ⟨v, Mr, μ, e1, e2, e3, e4, e5, e6⟩ => ⟨v, Mr, μ, e1, e2, e3, e4, e5, h4 _ _ _ _ _ e6⟩

noncomputable def FGrC := mkF (fun s : (List Rec) => [zAt s]) (fun s => s.length ≤ 1000000) (fun s => Res.via (vecE 1 zOi (grpR s)))
theorem zKd {a : List Rec} (hp : a.length ≤ 1000000) : FGrC [zAt a] = some (Res.via (vecE 1 zOi (grpR a))) := zAB (s := (a)) (fun s s' h => by simp only [cI] at h; simp only [h]) hp
noncomputable def FGr := mkF (fun s : (List Rec) => [zAt s]) (fun s => s.length ≤ 1000000) (fun s => Res.via (vecE 1 zAt (grpR s)))
theorem yJ1 {a : List Rec} (hp : a.length ≤ 1000000) : FGr [zAt a] = some (Res.via (vecE 1 zAt (grpR a))) := zAB (s := (a)) (fun s s' h => by simp only [cI] at h; simp only [h]) hp
theorem zRH (cx : Cx) (hP : cx.P = Tryz.prog) (hbs : cx.bs = 0) (hk4 : cx.kp 4 = some [0, 3, 4, 7, 8]) (a : List Rec) (hl : a.length ≤ 1000000) : zAj cx Tryz.f49 [] true [zAt a] = some (Res.via (vecE 1 zOi (grpR a))) := by
 have hw : ∀ k : Nat, (k : Int) < a.length → IntKind.i64.wrap ((k : Int) + 1) = ((k + 1 : Nat) : Int) := zBL (by omega)
 have hieq : ∀ k : Nat, (((k + 1 : Nat) : Int) = (a.length : Int)) = (k + 1 = a.length) := fun k => by simp only [eq_iff_iff]; omega
 have hi1 : ∀ k : Nat, (k : Int) < a.length → ¬ k + 1 = a.length → ((k + 1 : Nat) : Int) < a.length := fun k h h2 => by omega
 have hsl : ∀ (H : Hp) (k : Nat), (k : Int) < a.length → zBm Tryz.prog H 22 (zAt a) (some (.it .i64 ((grpS a k).1 : Int))) (some (.it .i64 ((k + 1 : Nat) : Int))) (some (.it .i64 ((k + 1 : Nat) : Int))) = some (zOi ((a.take (k + 1)).drop (grpS a k).1)) := fun H k h => zS1 Tryz.underlying22 sz53 (by have := zTV a k; omega) (by omega)
 have hsl2 : ∀ (H : Hp) (k : Nat), (k : Int) < a.length → k + 1 = a.length → zBm Tryz.prog H 22 (zAt a) (some (.it .i64 ((grpS a k).1 : Int))) (some (.it .i64 (a.length : Int))) (some (.it .i64 (a.length : Int))) = some (zOi (a.drop (grpS a k).1)) := fun H k h h2 => by have := hsl H k h; rw [h2, List.take_length] at this; exact this
 refine zEj (rs := [.tmp 2]) rfl hbs rfl ?_
 repeat' first
   | (refine zAw (σ := Nat) (fun s => [zAt a, .own 0 0 (grpS a s).2.length, .it .i64 ((grpS a s).1 : Int), .it .i64 a.length, .it .i64 s]) (fun s => [.row 1 true ((grpS a s).2.map zOi)]) (fun s => s ≤ a.length) (fun s => a.length - s) [0, 3, 4, 7, 8] hbs (by exact hk4) (fun q jq b hb => by simp only [List.mem_singleton] at hb; subst hb; exact zA2 (fun _ => rfl)) (fun s js => ?_) (s := 0) [1] ?_ ?_ ?_ ?_ ?_)
   | (refine zAR (fun h => ?_) (fun h => ?_) <;> (try simp only [cN] at h))
   | (refine zAN ?_ ?_)
   | simp (config := { decide := true }) only [↓cD, cU, cQ, cP, cB, zAJ, unD, zAf, zAd, idx, reduceCtorEq, ↓reduceIte, ofV, ofC, zAq, Nat.reduceEqDiff, zAG, cG, implies_true, forall_const, immL, immD, Res.flat, ren, renL, Int.reduceEq, Int.reduceLT, Int.reduceLE, Int.reduceNe, deref, ldD, zAF, zAk, zAI, zAs, cC, cS, refs, zAD, okId, List.all_nil, List.all_cons, Nat.reduceMul, Nat.reduceAdd, Nat.reduceLeDiff, zAv, ↓zAM, ↓zAQ, ↓zAL, ↓zAP, ↓zAK, ↓zAO, cV, cT, cF, cW, borT, borM, zAm, Res.via, zAu, zAb, refsB, Nat.reduceLT, Nat.reduceSub, Nat.reduceLeDiff, Nat.reduceMul, Nat.reduceAdd, Int.reduceToNat, appK, zAr, zAc, borL, zAl, zAn, zAE, cO, List.replicate, zAC, ofHp, ixOf, cS, refs, zAD, okId, List.all_nil, List.all_cons, Nat.reduceMul, Nat.reduceAdd, Nat.reduceLeDiff, zAv, hw, hi1, hsl, hsl2, hieq, hP, *]
 all_goals first
   | rfl
   | omega
   | (have h1 := zQz a s; first | omega | (constructor <;> omega))
   | (have e : (grpS a s).2 = grpR a := (by rw [show s = a.length by omega]; rfl); rw [e]; exact ⟨_, rfl, rfl⟩)
   | (have e := zEu (l := a) (i := s) (.inr (beq_eq_false_iff_ne.1 ‹_›)); refine ⟨[1218], s + 1, ?_, ?_, ?_, ?_, by omega, by omega⟩ <;> (try rw [e]) <;> (try simp only [List.length_append, List.length_cons, List.length_nil, Nat.zero_add]) <;> (first | rfl | (simp only [zAv, refs, cR, cQ, ren, List.nil_append, List.cons_append, Nat.reduceEqDiff, ofHp, ixOf]; first | rfl | (simp; done))))
   | (have e := zMx (l := a) (i := s) ‹_› (eq_of_beq ‹_›); refine ⟨[0], s + 1, ?_, ?_, ?_, ?_, by omega, by omega⟩ <;> (try rw [e]) <;> (first | rfl | (simp only [zAv, refs, cR, cQ, ren, List.nil_append, List.cons_append, Nat.reduceEqDiff, ofHp, ixOf]; first | rfl | (simp; done))))
   | (have hq : s + 1 = a.length := ‹_›; have e := zEu (l := a) (i := s) (.inl hq); rw [hq, List.take_length] at e; refine ⟨[1218], a.length, ?_, ?_, ?_, ?_, by omega, by omega⟩ <;> (try rw [e]) <;> (try simp only [List.length_append, List.length_cons, List.length_nil, Nat.zero_add]) <;> (first | rfl | (simp only [zAv, refs, cR, cQ, ren, List.nil_append, List.cons_append, Nat.reduceEqDiff, ofHp, ixOf]; first | rfl | (simp; done))))
   | (first | rfl | (simp only [zAv, refs, cR, cQ, ren, List.nil_append, List.cons_append, Nat.reduceEqDiff, ofHp, ixOf]; first | rfl | (simp; done)))
def g0 (g : List Rec) : List UInt8 := g[0]!.name
def delB (o : List UInt8) (g : List Rec) : Bool := if g0 g = o then false else hasT g 2
def zCf (o : List UInt8) (g : List Rec) (cut red : List UInt8) : Bool :=
 if underB (g0 g) o = false then false else if ¬ hasT g 6 = (g0 g == o) then false else if uniF g = false then false else
 if g0 g = o ∧ hasT g 2 = false then false else if hasT g 5 = true ∧ onlyT g [5, 46, 47] = false then false else if ¬ red = [] then false else
 if ¬ cut = [] ∧ onlyT g [1, 28] = false then false else if delB o g = true ∧ onlyT g [2, 43, 47, 46, 1, 28] = false then false else
 if delB o g = false ∧ hasT g 43 = true then false else if ¬ ((g0 g)[0]!.toNat : Int) = 42 then true else if hasT g 2 = true then false else !hasT g 39
structure PrP (o : List UInt8) (g : List Rec) (cut red : List UInt8) : Prop where
 ho : Sm o
 hg : g.length ≤ 1000000
 hg0 : 0 < g.length
 hn : Sm (g0 g)
 hn0 : 0 < (g0 g).length

noncomputable def FPrp := mkF (fun s : (List UInt8) × (List Rec) × (List UInt8) × (List UInt8) => [.st s.1, zAt s.2.1, .st s.2.2.1, .st s.2.2.2]) (fun s => PrP s.1 s.2.1 s.2.2.1 s.2.2.2) (fun s => Res.flat (.bo (zCf s.1 s.2.1 s.2.2.1 s.2.2.2)))
theorem yAH {o : List UInt8} {g : List Rec} {cut : List UInt8} {red : List UInt8} (hp : PrP o g cut red) : FPrp [.st o, zAt g, .st cut, .st red] = some (Res.flat (.bo (zCf o g cut red))) := zAB (s := (o, g, cut, red)) (fun s s' h => by simp only [cI] at h; simp only [h]) hp
theorem zM5 (cx : Cx) (hP : cx.P = Tryz.prog) (hbs : cx.bs = 0) (h50 : cx.orc 50 = some zDF) (h52 : cx.orc 52 = some zO2) (h95 : cx.orc 95 = some FUni) (h96 : cx.orc 96 = some zML) (o : List UInt8) (g : List Rec) (cut red : List UInt8) (hl : PrP o g cut red) : zAj cx Tryz.f51 [] false [.st o, zAt g, .st cut, .st red] = some (Res.flat (.bo (zCf o g cut red))) := by
 have c50 := zAa h50
 have c52 := zAa h52
 have c95 := zAa h95
 have c96 := zAa h96
 have hl1 := hl.ho; have hl2 := hl.hg; have hl3 := hl.hn; have hl4 : ((0 : Int) < (g.length : Int)) = True := by have := hl.hg0; simp only [eq_iff_iff, iff_true]; omega
 have hg0 : (g.map recE)[0]? = some (recE g[0]!) := getm (by have := hl.hg0; omega)
 have hix : ∀ (H : Hp), zA6 Tryz.prog H 22 (zAt g) (.it .i64 0) = some (.elt (recE g[0]!).cells) := fun H => zNF (i := 0) Tryz.underlying22 sz53 rfl (by have := hl.hg0; omega)
 have hn0 : g[0]!.name = g0 g := rfl
 have hx0 : zGd Tryz.prog 9 (.st (g0 g)) (.it .i64 0) = some (.it .u8 ((g0 g)[0]!.toNat : Int)) := ixs (i := 0) Tryz.underlying9 (by have := hl.hn0; omega)
 have hp0 : ((0 : Int) < ((g0 g).length : Int)) = True := by have := hl.hn0; simp only [eq_iff_iff, iff_true]; omega
 have ho0 : zML [zAt g, .vec 1 false [.it .i64 5, .it .i64 46, .it .i64 47]] = some (Res.flat (.bo (onlyT g [5, 46, 47]))) := zNR (v := [5, 46, 47]) ⟨hl.hg, by decide⟩
 have ho1 : zML [zAt g, .vec 1 false [.it .i64 1, .it .i64 28]] = some (Res.flat (.bo (onlyT g [1, 28]))) := zNR (v := [1, 28]) ⟨hl.hg, by decide⟩
 have ho2 : zML [zAt g, .vec 1 false [.it .i64 2, .it .i64 43, .it .i64 47, .it .i64 46, .it .i64 1, .it .i64 28]] = some (Res.flat (.bo (onlyT g [2, 43, 47, 46, 1, 28]))) := zNR (v := [2, 43, 47, 46, 1, 28]) ⟨hl.hg, by decide⟩
 refine zAg (rs := [.tmp 8]) rfl hbs rfl ?_
 repeat' first
   | (refine zAR (fun h => ?_) (fun h => ?_) <;> (try simp only [cN] at h))
   | (refine zAN ?_ ?_)
   | simp only [↓cD, cU, cQ, cP, cB, zAJ, unD, zAf, zAd, idx, reduceCtorEq, ↓reduceIte, ofV, ofC, zAq, Nat.reduceEqDiff, zAG, cG, implies_true, forall_const, immL, immD, Res.flat, ren, renL, Int.reduceEq, Int.reduceLT, Int.reduceLE, Int.reduceNe, deref, ldD, zAF, zAk, zAI, zAs, cC, c50, c52, c95, c96, zAo, zAp, zDE, zVT, yGV, zNR, ↓zAM, ↓zAQ, ↓zAL, ↓zAP, ↓zAK, ↓zAO, cV, cT, cF, cW, borT, borM, zAm, Res.via, zAu, zAb, refsB, Nat.reduceLT, Nat.reduceSub, Nat.reduceLeDiff, Nat.reduceMul, Nat.reduceAdd, Int.reduceToNat, appK, zAr, zAc, borL, zAl, zAn, zAE, cO, List.replicate, zAC, ofHp, ixOf, ixs Tryz.underlying9, eqb4, zI8, hl1, hl2, hl3, hl4, hg0, hix, hn0, hp0, hx0, ho0, ho1, ho2, hP, *]
 all_goals first
   | rfl
   | (simp [zCf, delB, *]; done)
   | (simp_all [zCf, delB]; done)
def ZRw (z : Zone) : Prop := Sm z.origin ∧ Sm z.recs ∧ ∀ r ∈ z.recs, RSm r
theorem ZRw.l {z : Zone} (h : ZRw z) (hn : ¬ 2048 < (z.recs.length : Int)) : LSm z.recs := ⟨by omega, h.2.2⟩
def DltRw (d : Delta) : Prop := Sm d.origin ∧ (Sm d.rem ∧ ∀ r ∈ d.rem, RSm r) ∧ Sm d.add ∧ ∀ r ∈ d.add, RSm r
theorem DltRw.r {d : Delta} (h : DltRw d) (hn : ¬ 2048 < (d.rem.length : Int)) : LSm d.rem := ⟨by omega, h.2.1.2⟩
theorem DltRw.a {d : Delta} (h : DltRw d) (hn : ¬ 2048 < (d.add.length : Int)) : LSm d.add := ⟨by omega, h.2.2.2⟩
def dlt0 : Delta := ⟨[], 0, 0, [], []⟩
def zPe (a b : Zone) : Bool := if (a.origin == b.origin) = false then false else eqL a.recs b.recs

noncomputable def FEqw := mkF (fun s : (List Rec) × (List Rec) => [zAt s.1, zAt s.2]) (fun s => Sm s.1) (fun s => Res.flat (.bo (eqL s.1 s.2)))
theorem zIW {a : List Rec} {b : List Rec} (hp : Sm a) : FEqw [zAt a, zAt b] = some (Res.flat (.bo (eqL a b))) := zAB (s := (a, b)) (fun s s' h => by simp only [cI] at h; simp only [h]) hp
theorem zNd (cx : Cx) (hP : cx.P = Tryz.prog) (hbs : cx.bs = 0) (hk4 : cx.kp 4 = some [0, 1, 5]) (a b : List Rec) (hl : Sm a) : zAj cx Tryz.f30 [] false [zAt a, zAt b] = some (Res.flat (.bo (eqL a b))) := by
 have hw : ∀ k : Nat, (k : Int) < a.length → IntKind.i64.wrap ((k : Int) + 1) = ((k + 1 : Nat) : Int) := zBL hl
 refine zAg (rs := [.tmp 4]) rfl hbs rfl ?_
 repeat' first
   | (refine zAY (σ := Nat) (fun s4 => [zAt a, zAt b, .it .i64 s4]) (fun s4 => s4 ≤ a.length ∧ (a.drop s4 = b.drop s4 ↔ a = b)) (fun s4 => a.length - s4) [0, 1, 5] hbs (by exact hk4) (fun s4 => by simp only [zAv, refs, zBb, zBc, zBe, List.append_nil]) (fun s4 j4 => ?_) (s := 0) ?_ ?_)
   | (refine zAR (fun h => ?_) (fun h => ?_) <;> (try simp only [cN] at h))
   | (refine zAN ?_ ?_)
   | simp only [↓cD, cU, cQ, cP, cB, zAJ, unD, zAf, zAd, idx, reduceCtorEq, ↓reduceIte, ofV, ofC, zAq, Nat.reduceEqDiff, zAG, cG, implies_true, forall_const, immL, immD, Res.flat, ren, renL, Int.reduceEq, Int.reduceLT, Int.reduceLE, Int.reduceNe, deref, ldD, zAF, zAk, zAI, zAs, cC, cS, refs, zAD, okId, List.all_nil, List.all_cons, Nat.reduceMul, Nat.reduceAdd, Nat.reduceLeDiff, zAv, ↓zAM, ↓zAQ, ↓zAL, ↓zAP, ↓zAK, ↓zAO, cV, cT, cF, cW, borT, borM, zAm, Res.via, zAu, zAb, refsB, Nat.reduceLT, Nat.reduceSub, Nat.reduceLeDiff, Nat.reduceMul, Nat.reduceAdd, Int.reduceToNat, appK, zAr, zAc, borL, zAl, zAn, zAE, cO, List.replicate, zAC, ofHp, ixOf, cS, refs, zAD, okId, List.all_nil, List.all_cons, Nat.reduceMul, Nat.reduceAdd, Nat.reduceLeDiff, zAv, hw, hP, *]
 all_goals (try simp only [eqL])
 all_goals first
   | rfl
   | exact ⟨Nat.zero_le _, Iff.rfl⟩
   | (refine ⟨_, rfl, ⟨by omega, ?_⟩, by omega⟩; rw [zJ6 (by omega) (by omega)] at j4; simp only [*, true_and] at j4; exact j4.2)
   | omega
   | (have hne : a ≠ b := fun e => (by have hq := j4.2.2 e; rw [zJ6 (by omega) (by omega)] at hq; exact (‹¬ _› : ¬ a[s4]! = b[s4]!) hq.1); rw [decide_eq_false hne])
   | (rw [zBw (zs := a) (by omega), zBw (zs := b) (by omega)] at j4; simp [j4.2.1 rfl]; done)
   | (have hne : a ≠ b := fun e => (by subst e; omega); rw [decide_eq_false hne])
noncomputable def zDl := mkF (fun s : Zone × Zone => [zAU s.1, zAU s.2]) (fun s => Sm s.1.recs) (fun s => Res.flat (.bo (zPe s.1 s.2)))
theorem zDk {z : Zone} {z2 : Zone} (hp : Sm z.recs) : zDl [zAU z, zAU z2] = some (Res.flat (.bo (zPe z z2))) := zAB (s := (z, z2)) (fun s s' h => by simp only [cI] at h; simp only [h]) hp
theorem zFR (cx : Cx) (hP : cx.P = Tryz.prog) (hbs : cx.bs = 0) (h30 : cx.orc 30 = some FEqw) (z z2 : Zone) (hl : Sm z.recs) : zAj cx Tryz.f20 [] false [zAU z, zAU z2] = some (Res.flat (.bo (zPe z z2))) := by
 have c30 := zAa h30
 refine zAg (rs := [.tmp 4]) rfl hbs rfl ?_
 repeat' first
   | (refine zAR (fun h => ?_) (fun h => ?_) <;> (try simp only [cN] at h))
   | (refine zAN ?_ ?_)
   | simp only [↓cD, cU, cQ, cP, cB, zAJ, unD, zAf, zAd, idx, reduceCtorEq, ↓reduceIte, ofV, ofC, zAq, Nat.reduceEqDiff, zAG, cG, implies_true, forall_const, immL, immD, Res.flat, ren, renL, Int.reduceEq, Int.reduceLT, Int.reduceLE, Int.reduceNe, deref, ldD, zAF, zAk, zAI, zAs, cC, c30, zAo, zAp, zIW, ↓zAM, ↓zAQ, ↓zAL, ↓zAP, ↓zAK, ↓zAO, cV, cT, cF, cW, borT, borM, zAm, Res.via, zAu, zAb, refsB, Nat.reduceLT, Nat.reduceSub, Nat.reduceLeDiff, Nat.reduceMul, Nat.reduceAdd, Int.reduceToNat, appK, zAr, zAc, borL, zAl, zAn, zAE, cO, List.replicate, zAC, ofHp, ixOf, hl, hP, *]
 all_goals first
   | rfl
   | (simp [zPe, *]; done)
theorem LSm.dr {l : List Rec} (h : LSm l) : Sm l ∧ ∀ r ∈ l, RSm r := ⟨h.sm, h.2⟩
theorem zKp {a b c d : List Rec} (ha : LSm a) (hb : LSm b) (h1 : ¬ 2048 < (a.length : Int)) (h2 : ¬ 2048 < (b.length : Int)) : LSm (zAi a c) ∧ LSm (zAi b d) ∧ (zAi a c).length + (zAi b d).length ≤ 1000000 := by
 have c1 := zA3 a c; have c2 := zA3 b d
 exact ⟨ha.wo _, hb.wo _, by omega⟩
theorem zNe (cx : Cx) (hP : cx.P = Tryz.prog) (hbs : cx.bs = 0) (hk4 : cx.kp 4 = some [0, 1, 12, 13]) (a b : List Rec) (hl : a.length ≤ 1000000 ∧ b.length ≤ 1000000) : zAj cx Tryz.f47 [] false [zAt a, zAt b] = some (Res.flat (.bo (eqL a b))) := by
 have hw : ∀ k : Nat, (k : Int) < b.length → IntKind.i64.wrap ((k : Int) + 1) = ((k + 1 : Nat) : Int) := zBL (by omega)
 refine zAg (rs := [.tmp 4]) rfl hbs rfl ?_
 repeat' first
   | (refine zAY (σ := Nat) (fun s4 => [zAt a, zAt b, .it .i64 b.length, .it .i64 s4]) (fun s4 => s4 ≤ b.length ∧ (a.drop s4 = b.drop s4 ↔ a = b)) (fun s4 => b.length - s4) [0, 1, 12, 13] hbs (by exact hk4) (fun s4 => by simp only [zAv, refs, zBb, zBc, zBe, List.append_nil]) (fun s4 j4 => ?_) (s := 0) ?_ ?_)
   | (refine zAR (fun h => ?_) (fun h => ?_) <;> (try simp only [cN] at h))
   | (refine zAN ?_ ?_)
   | simp only [↓cD, cU, cQ, cP, cB, zAJ, unD, zAf, zAd, idx, reduceCtorEq, ↓reduceIte, ofV, ofC, zAq, Nat.reduceEqDiff, zAG, cG, implies_true, forall_const, immL, immD, Res.flat, ren, renL, Int.reduceEq, Int.reduceLT, Int.reduceLE, Int.reduceNe, deref, ldD, zAF, zAk, zAI, zAs, cC, cS, refs, zAD, okId, List.all_nil, List.all_cons, Nat.reduceMul, Nat.reduceAdd, Nat.reduceLeDiff, zAv, ↓zAM, ↓zAQ, ↓zAL, ↓zAP, ↓zAK, ↓zAO, cV, cT, cF, cW, borT, borM, zAm, Res.via, zAu, zAb, refsB, Nat.reduceLT, Nat.reduceSub, Nat.reduceLeDiff, Nat.reduceMul, Nat.reduceAdd, Int.reduceToNat, appK, zAr, zAc, borL, zAl, zAn, zAE, cO, List.replicate, zAC, ofHp, ixOf, cS, refs, zAD, okId, List.all_nil, List.all_cons, Nat.reduceMul, Nat.reduceAdd, Nat.reduceLeDiff, zAv, hw, hP, *]
 all_goals (try simp only [eqL])
 all_goals first
   | rfl
   | exact ⟨Nat.zero_le _, Iff.rfl⟩
   | (refine ⟨_, rfl, ⟨by omega, ?_⟩, by omega⟩; rw [zJ6 (by omega) (by omega)] at j4; simp only [*, true_and] at j4; exact j4.2)
   | omega
   | (have hne : a ≠ b := fun e => (by have hq := j4.2.2 e; rw [zJ6 (by omega) (by omega)] at hq; exact (‹¬ _› : ¬ a[s4]! = b[s4]!) hq.1); rw [decide_eq_false hne])
   | (rw [zBw (zs := a) (by omega), zBw (zs := b) (by omega)] at j4; simp [j4.2.1 rfl]; done)
   | (have hne : a ≠ b := fun e => (by subst e; omega); rw [decide_eq_false hne])
def crwB (l : List Rec) : Bool := l.any fun x => decide (64 < ((findR l x.name x.typ).length : Int))
abbrev Zs := List UInt8 × List UInt8 × Bool
def cutZ (c n : List UInt8) : List UInt8 := if c = [] then c else if underB n c = false then [] else c
def zDU (o : List UInt8) (q : Zs) (g : List Rec) : Option Zs :=
 if zCf o g (cutZ q.1 (g0 g)) (cutZ q.2.1 (g0 g)) = false then none else
 some (if cutZ q.1 (g0 g) = [] ∧ ¬ g0 g = o ∧ hasT g 2 = true then g0 g else cutZ q.1 (g0 g), if hasT g 39 = true then g0 g else cutZ q.2.1 (g0 g), if q.2.2 = true then true else g0 g == o)
def zrun (o : List UInt8) : List (List Rec) → Option Zs := fun gs => gs.foldlM (zDU o) ([], [], false)
theorem zXb {o : List UInt8} {gs : List (List Rec)} {i : Nat} (h : (i : Int) < gs.length) : zrun o (gs.take (i + 1)) = (zrun o (gs.take i)).bind fun q => zDU o q gs[i]! := by
 unfold zrun
 rw [takeN h, List.foldlM_append]
 cases (gs.take i).foldlM (zDU o) ([], [], false) with
 | none => rfl
 | some q => simp only [Option.bind_eq_bind, Option.bind_some, List.foldlM_cons, List.foldlM_nil]; cases zDU o q gs[i]! <;> rfl
theorem zOy {o : List UInt8} : ∀ (l : List (List Rec)) (k : Nat) (q0 q : Zs), (l.take k).foldlM (zDU o) q0 = some q → ∀ (h : k < l.length), zDU o q l[k]! = none → l.foldlM (zDU o) q0 = none
 | [], k, q0, q, _, h, _ => by simp at h
 | g :: r, 0, q0, q, e, _, h2 => by
   simp only [List.take_zero, List.foldlM_nil, Option.pure_def, Option.some.injEq] at e
   subst e
   rw [List.foldlM_cons]
   have : (g :: r)[0]! = g := rfl
   rw [this] at h2; rw [h2]; rfl
 | g :: r, k + 1, q0, q, e, h, h2 => by
   rw [List.take_succ_cons, List.foldlM_cons] at e
   rw [List.foldlM_cons]
   cases hz : zDU o q0 g with
   | none => rfl
   | some q1 =>
     rw [hz] at e
     exact zOy r k q1 q e (by simpa using h) (by simpa using h2)
theorem zXc {o : List UInt8} {gs : List (List Rec)} {i : Nat} {q : Zs} (h : (i : Int) < gs.length) (e : zrun o (gs.take i) = some q) (h2 : zDU o q gs[i]! = none) : zrun o gs = none := zOy gs i _ q e (by omega) h2
def chkP (z : Zone) : Int := if vName z.origin = false then 2 else if 2048 < (z.recs.length : Int) then 9 else if crwB z.recs = true then 9 else if z.recs.any badX = true then 5 else
 if eqL z.recs (zA4 z.recs) = false then 7 else match zrun z.origin (grpR z.recs) with | none => 13 | some q => if q.2.2 = true then 0 else 13
theorem zPI {l : List Rec} : ∀ i, ∀ g ∈ (grpS l i).2, i ≤ l.length → g ≠ [] ∧ ∀ x ∈ g, x ∈ l
 | 0, g, hg, _ => by simp [grpS] at hg
 | i + 1, g, hg, hi => by
   rw [grpS] at hg
   split at hg
   · simp only [List.mem_append, List.mem_singleton] at hg
     rcases hg with hg | rfl
     · exact zPI i g hg (by omega)
     · have := zTV l i
       refine ⟨List.ne_nil_of_length_pos (by rw [List.length_drop, List.length_take]; omega), fun x hx => List.mem_of_mem_take (List.mem_of_mem_drop hx)⟩
   · exact zPI i g hg (by omega)
theorem zL1 {l : List Rec} : ∀ i, ∀ g ∈ (grpS l i).2, g.length ≤ l.length
 | 0, g, hg => by simp [grpS] at hg
 | i + 1, g, hg => by
   rw [grpS] at hg
   split at hg
   · simp only [List.mem_append, List.mem_singleton] at hg
     rcases hg with hg | rfl
     · exact zL1 i g hg
     · rw [List.length_drop, List.length_take]; omega
   · exact zL1 i g hg
theorem zSh {l : List Rec} {i : Nat} (h : (i : Int) < (grpR l).length) : (grpR l)[i]! ∈ grpR l := zBO h
theorem yA4 {n : List UInt8} (h : vName n = true) : 0 < n.length := by
 cases n with
 | nil => simp [vName, labs] at h
 | cons a r => simp
theorem yFK {z : Zone} {i : Nat} {cut red : List UInt8} (hz : ZRw z) (hn : ¬ 2048 < (z.recs.length : Int)) (hv : z.recs.any badX = false) (h : (i : Int) < (grpR z.recs).length) : PrP z.origin (grpR z.recs)[i]! cut red := by
 have hg := zSh h
 obtain ⟨h1, h2⟩ := zPI _ _ hg (Nat.le_refl _)
 have h3 := zL1 _ _ hg
 have h4 : 0 < ((grpR z.recs)[i]!).length := List.length_pos_iff.2 h1
 have hm : ((grpR z.recs)[i]!)[0]! ∈ z.recs := h2 _ (zDS h4)
 refine ⟨hz.1, by omega, h4, (hz.2.2 _ hm).1, ?_⟩
 have h5 := List.any_eq_false.1 hv _ hm
 simp only [badX, Bool.not_eq_true', Bool.not_eq_false] at h5
 unfold zBd at h5
 rw [Bool.and_eq_true] at h5
 exact yA4 h5.1

noncomputable def zJ9 := mkF (fun s : (List Rec) => [zAt s]) (fun s => LSm s) (fun s => Res.flat (zAt (zA4 s)))
theorem zSG {a : List Rec} (hp : LSm a) : zJ9 [zAt a] = some (Res.flat (zAt (zA4 a))) := zAB (s := (a)) (fun s s' h => by simp only [cI] at h; simp only [h]) hp
noncomputable def FCrw := mkF (fun s : (List Rec) => [zAt s]) (fun s => s.length ≤ 2048) (fun s => Res.flat (.bo (crwB s)))
theorem yG8 {a : List Rec} (hp : a.length ≤ 2048) : FCrw [zAt a] = some (Res.flat (.bo (crwB a))) := zAB (s := (a)) (fun s s' h => by simp only [cI] at h; simp only [h]) hp
noncomputable def zJb := mkF (fun s : Zone => [zAU s]) (fun s => ZRw s) (fun s => Res.flat (.it .i64 (chkP s)))
theorem zHK {z : Zone} (hp : ZRw z) : zJb [zAU z] = some (Res.flat (.it .i64 (chkP z))) := zAB (s := (z)) (fun s s' h => by simp only [cI] at h; simp only [h]) hp
theorem zJO (cx : Cx) (hP : cx.P = Tryz.prog) (hbs : cx.bs = 0) (h42 : cx.orc 42 = some zF1) (h43 : cx.orc 43 = some FCrw) (h44 : cx.orc 44 = some zFh) (h48 : cx.orc 48 = some zJ9) (h47 : cx.orc 47 = some FEq) (h49 : cx.orc 49 = some FGr) (h50 : cx.orc 50 = some zDF) (h51 : cx.orc 51 = some FPrp) (h52 : cx.orc 52 = some zO2) (r42 : cx.rd.contains 42 = true) (r43 : cx.rd.contains 43 = true) (r44 : cx.rd.contains 44 = true) (r48 : cx.rd.contains 48 = true) (r47 : cx.rd.contains 47 = true) (r49 : cx.rd.contains 49 = true) (r50 : cx.rd.contains 50 = true) (r51 : cx.rd.contains 51 = true) (r52 : cx.rd.contains 52 = true) (hk12 : cx.kp 12 = some [1, 3, 4, 5, 34, 35, 36]) (z : Zone) (hl : ZRw z) : zAj cx Tryz.f23 [] false [zAU z] = some (Res.flat (.it .i64 (chkP z))) := by
 have c42 := zAa h42
 have d42 := zAh r42 h42
 have c43 := zAa h43
 have d43 := zAh r43 h43
 have c44 := zAa h44
 have d44 := zAh r44 h44
 have c48 := zAa h48
 have d48 := zAh r48 h48
 have c47 := zAa h47
 have d47 := zAh r47 h47
 have c49 := zAa h49
 have d49 := zAh r49 h49
 have c50 := zAa h50
 have d50 := zAh r50 h50
 have c51 := zAa h51
 have d51 := zAh r51 h51
 have c52 := zAa h52
 have d52 := zAh r52 h52
 have hl1 := hl.1
 have hl2 : ¬ 2048 < (z.recs.length : Int) → z.recs.length ≤ 2048 := fun h => by omega
 have hl3 : ¬ 2048 < (z.recs.length : Int) → z.recs.length ≤ 1000000 := fun h => by omega
 have hl4 : ¬ 2048 < (z.recs.length : Int) → (zA4 z.recs).length ≤ 1000000 := fun h => by have := zLz z.recs; omega
 have hl5 : ¬ 2048 < (z.recs.length : Int) → LSm z.recs := fun h => hl.l h
 have hcb : ¬ 2048 < (z.recs.length : Int) → zFh [zAt z.recs, .fn (.func 45) [] []] = some (Res.flat (.bo (z.recs.any badX))) := fun h => zSM (hl.l h)
 have hix : ∀ (H : Hp) (k : Nat), (k : Int) < (grpR z.recs).length → zA6 Tryz.prog H 22 (zAt (grpR z.recs)[k]!) (.it .i64 0) = some (.elt (recE (grpR z.recs)[k]![0]!).cells) := fun H k h => zNF (i := 0) Tryz.underlying22 sz53 rfl (by have := (zPI _ _ (zSh h) (Nat.le_refl _)).1; exact List.length_pos_iff.2 this)
 have hgn : ∀ k : Nat, (grpR z.recs)[k]![0]!.name = g0 (grpR z.recs)[k]! := fun k => rfl
 have hg0 : ¬ 2048 < (z.recs.length : Int) → ∀ k : Nat, (k : Int) < (grpR z.recs).length → Sm (g0 (grpR z.recs)[k]!) := fun h k hk => (hl.2.2 _ ((zPI _ _ (zSh hk) (Nat.le_refl _)).2 _ (zDS (List.length_pos_iff.2 (zPI _ _ (zSh hk) (Nat.le_refl _)).1)))).1
 have hpr : ¬ 2048 < (z.recs.length : Int) → z.recs.any badX = false → ∀ (k : Nat) (cut red : List UInt8), (k : Int) < (grpR z.recs).length → FPrp [.st z.origin, zAt (grpR z.recs)[k]!, .st cut, .st red] = some (Res.flat (.bo (zCf z.origin (grpR z.recs)[k]! cut red))) := fun h h2 k cut red hk => yAH (yFK hl h h2 hk)
 have hhs : ¬ 2048 < (z.recs.length : Int) → ∀ k : Nat, (k : Int) < (grpR z.recs).length → (grpR z.recs)[k]!.length ≤ 1000000 := fun h k hk => by have := zL1 _ _ (zSh hk); omega
 have hu1 : True := trivial
 have hu2 : True := trivial
 have hw : ¬ 2048 < (z.recs.length : Int) → ∀ k : Nat, (k : Int) < (grpR z.recs).length → IntKind.i64.wrap ((k : Int) + 1) = ((k + 1 : Nat) : Int) := fun h k hk => by have := zQz z.recs z.recs.length; have e : (grpS z.recs z.recs.length).2 = (grpR z.recs) := rfl; rw [e] at this; rw [wrap64 (by omega) (by omega)]; omega
 refine zAg (rs := [.tmp 2]) rfl hbs rfl ?_
 repeat' first
   | (refine zAw (σ := Nat × Zs) (fun q => [.ptr 0 0, .st q.2.1, .st q.2.2.1, .bo q.2.2.2, vecE 1 zAt (grpR z.recs), .it .i64 (grpR z.recs).length, .it .i64 q.1]) (fun q => [.box (zDo z)]) (fun q => q.1 ≤ (grpR z.recs).length ∧ Sm q.2.1 ∧ Sm q.2.2.1 ∧ zrun z.origin ((grpR z.recs).take q.1) = some q.2) (fun q => (grpR z.recs).length - q.1) [1, 3, 4, 5, 34, 35, 36] hbs (by exact hk12) (fun q jq b hb => by simp only [List.mem_singleton] at hb; subst hb; exact zDf z) (fun q jq => ?_) (s := (0, [], [], false)) [0] ?_ ?_ ?_ ?_ ?_)
   | (refine zAR (fun h => ?_) (fun h => ?_) <;> (try simp only [cN] at h))
   | (refine zAN ?_ ?_)
   | simp (config := { decide := true }) only [↓cD, cU, cQ, cP, cB, zAJ, unD, zAf, zAd, idx, reduceCtorEq, ↓reduceIte, ofV, ofC, zAq, Nat.reduceEqDiff, zAG, cG, implies_true, forall_const, immL, immD, Res.flat, ren, renL, Int.reduceEq, Int.reduceLT, Int.reduceLE, Int.reduceNe, deref, ldD, zAF, zAk, zAI, zAs, cC, cS, refs, zAD, okId, List.all_nil, List.all_cons, Nat.reduceMul, Nat.reduceAdd, Nat.reduceLeDiff, zAv, c42, c43, c44, c48, c47, c49, c50, c51, c52, d42, d43, d44, d48, d47, d49, d50, d51, d52, zAo, zAp, zF0, yG8, zSM, zSG, zPT, yJ1, zDE, yAH, zVT, ↓zAM, ↓zAQ, ↓zAL, ↓zAP, ↓zAK, ↓zAO, cV, cT, cF, cW, borT, borM, zAm, Res.via, zAu, zAb, refsB, Nat.reduceLT, Nat.reduceSub, Nat.reduceLeDiff, Nat.reduceMul, Nat.reduceAdd, Int.reduceToNat, appK, zAr, zAc, borL, zAl, zAn, zAE, cO, List.replicate, zAC, ofHp, ixOf, cS, refs, zAD, okId, List.all_nil, List.all_cons, Nat.reduceMul, Nat.reduceAdd, Nat.reduceLeDiff, zAv, hl1, hl2, hl3, hl4, hl5, hcb, hix, hgn, hg0, hpr, hhs, hu1, hu2, hw, cutZ, zKu, zHU, zI2, zKv, zI1, zFI, zGX, zHV, zE1, zEk, hP, *]
 all_goals (first | rfl | (clear c42 c43 c44 c48 c47 c49 c50 c51 c52 d42 d43 d44 d48 d47 d49 d50 d51 d52) | skip)
 all_goals first
   | rfl
   | (simp [chkP, *]; done)
   | exact ⟨Nat.zero_le _, rfl⟩
   | (have e := jq.2.2.2; rw [zAW (by omega)] at e; simp [chkP, *]; done)
   | (have e := zXc (by omega) jq.2.2.2 (by clear hix hgn hg0 hpr hhs hw hcb hl2 hl3 hl4 hl5 hl1 hu1 hu2; simp_all [zDU, cutZ]); simp [chkP, *]; done)
   | (have s1 := jq.2.1; have s2 := jq.2.2.1; have s3 := hg0 (by omega) q.1 (by omega); have s4 := zXb (o := z.origin) (gs := grpR z.recs) (i := q.1) (by omega); rw [jq.2.2.2, Option.bind_some] at s4; clear hix hgn hg0 hpr hhs hw hcb hl2 hl3 hl4 hl5 hl1 hu1 hu2; simp only [zDU, cutZ] at s4; obtain ⟨qi, qc, qr, qs⟩ := q; dsimp only at *; generalize hnm : g0 (grpR z.recs)[qi]! = nm at *; refine ⟨[0], (qi + 1, _, _, _), rfl, rfl, rfl, rfl, ⟨by omega, ?_, ?_, ?_⟩, by omega⟩ <;> dsimp only <;> first | omega | (simp; done) | (rw [s4]; simp_all; done))
theorem zNp {α : Type} {l p r : List α} {x : α} {i : Nat} (h : l = p ++ x :: r) (hi : p.length = i) : l[i]? = some x := by subst hi; subst h; simp
theorem zIv {α : Type} {l p r : List α} {x y : α} {i : Nat} (h : l = p ++ x :: r) (hi : p.length = i) : l.set i y = p ++ y :: r := by subst hi; subst h; simp
theorem zEr {l : List Rec} {k : Nat} (h : (k : Int) < l.length) : l.drop k = l[k]! :: l.drop (k + 1) := drop_at (zs := l) h
def swW (P A M B S : List Rec) (k : Nat) : List Rec := P ++ (B.take k ++ A.drop k) ++ M ++ (A.take k ++ B.drop k) ++ S
theorem yHv {P A M B S : List Rec} {k : Nat} (h : A.length = B.length) (hk : (k : Int) < A.length) : swW P A M B S k = (P ++ B.take k) ++ A[k]! :: (A.drop (k + 1) ++ M ++ (A.take k ++ B.drop k) ++ S) := by
 unfold swW; rw [zEr hk]; simp
theorem yJ8 {P A M B S : List Rec} {k : Nat} (h : A.length = B.length) (hk : (k : Int) < A.length) : swW P A M B S k = (P ++ (B.take k ++ A.drop k) ++ M ++ A.take k) ++ B[k]! :: (B.drop (k + 1) ++ S) := by
 unfold swW; rw [zEr (l := B) (by omega)]; simp
theorem yEA {P A M B S : List Rec} {k : Nat} (h : A.length = B.length) (hk : (k : Int) < A.length) : ((swW P A M B S k).map recE)[P.length + k]? = some (recE A[k]!) := by
 rw [List.getElem?_map, zNp (yHv h hk) (by simp; omega)]; rfl
theorem zXB {P A M B S : List Rec} {k : Nat} (h : A.length = B.length) (hk : (k : Int) < A.length) : ((swW P A M B S k).map recE)[P.length + A.length + M.length + k]? = some (recE B[k]!) := by
 rw [List.getElem?_map, zNp (yJ8 h hk) (by simp; omega)]; rfl
theorem yEy {P A M B S : List Rec} {k : Nat} (h : A.length = B.length) (hk : (k : Int) < A.length) : (((swW P A M B S k).map recE).set (P.length + k) (recE B[k]!)).set (P.length + A.length + M.length + k) (recE A[k]!) = (swW P A M B S (k + 1)).map recE := by
 rw [← List.map_set, ← List.map_set]
 congr 1
 rw [zIv (yHv h hk) (by simp; omega)]
 have e : (P ++ B.take k) ++ B[k]! :: (A.drop (k + 1) ++ M ++ (A.take k ++ B.drop k) ++ S) = (P ++ (B.take (k + 1) ++ A.drop (k + 1)) ++ M ++ A.take k) ++ B[k]! :: (B.drop (k + 1) ++ S) := by
   rw [takeN (l := B) (by omega), zEr (l := B) (k := k) (by omega)]; simp
 rw [zIv e (by simp; omega)]
 unfold swW
 rw [takeN (l := A) hk]; simp
theorem zKi (a b : Rec) : again (recE a) (recL b) = recE b := rfl
theorem yEz {P A M B S : List Rec} {k : Nat} {x : D} (h : A.length = B.length) (hk : (k : Int) < A.length) : (((swW P A M B S k).map recE).set (P.length + k) x)[P.length + A.length + M.length + k]? = some (recE B[k]!) := by
 rw [List.getElem?_set_ne (by omega), zXB h hk]
def SwP (P A M B S : List Rec) : Prop := A.length = B.length ∧ P.length + A.length + M.length + A.length + S.length ≤ 1000000
theorem zCt (l : List Rec) : zEw (.row 16 true (l.map recE)) := zA2 (fun _ => rfl)

theorem zMY (cx : Cx) (hP : cx.P = Tryz.prog) (hbs : cx.bs = 1) (hk1 : cx.kp 1 = some [0, 1, 2, 3, 10]) (P A M B S : List Rec) (hl : SwP P A M B S) : zFl cx Tryz.f200 [.own 0 0 (P.length + A.length + M.length + A.length + S.length), .it .i64 P.length, .it .i64 ((P.length + A.length + M.length : Nat) : Int), .it .i64 A.length, .fn (.func 80) [] []] [.row 16 true ((P ++ A ++ M ++ B ++ S).map recE)] = some ((.tup [], [.row 16 true ((P ++ B ++ M ++ A ++ S).map recE)])) := by
 have hw : ∀ k : Nat, (k : Int) < A.length → IntKind.i64.wrap ((k : Int) + 1) = ((k + 1 : Nat) : Int) := fun k h => by have hl1 := hl.1; have hl2 := hl.2; rw [wrap64 (by omega) (by omega)]; simp
 have hw1 : ∀ k : Nat, (k : Int) < A.length → IntKind.i64.wrap ((P.length : Int) + (k : Int)) = ((P.length + k : Nat) : Int) := fun k h => by have hl1 := hl.1; have hl2 := hl.2; rw [wrap64 (by omega) (by omega)]; simp
 have hw2 : ∀ k : Nat, (k : Int) < A.length → IntKind.i64.wrap (((P.length + A.length + M.length : Nat) : Int) + (k : Int)) = ((P.length + A.length + M.length + k : Nat) : Int) := fun k h => by have hl1 := hl.1; have hl2 := hl.2; rw [wrap64 (by omega) (by omega)]; omega
 have hb1 : ∀ k : Nat, (k : Int) < A.length → (((P.length + k : Nat) : Int) < ((P.length + A.length + M.length + A.length + S.length : Nat) : Int)) = True := fun k h => by simp only [eq_iff_iff, iff_true]; omega
 have hb2 : ∀ k : Nat, (k : Int) < A.length → (((P.length + A.length + M.length + k : Nat) : Int) < ((P.length + A.length + M.length + A.length + S.length : Nat) : Int)) = True := fun k h => by simp only [eq_iff_iff, iff_true]; omega
 have hb3 : ∀ k : Nat, ((k : Int) < 0) = False := fun k => by simp
 refine zJ7 (rs := []) rfl hbs rfl ?_
 repeat' first
   | (refine zBz (σ := Nat) (fun k => [.own 0 0 (P.length + A.length + M.length + A.length + S.length), .it .i64 P.length, .it .i64 ((P.length + A.length + M.length : Nat) : Int), .it .i64 A.length, .it .i64 k]) (fun k => [.row 16 true ((swW P A M B S k).map recE)]) (fun k => k ≤ A.length) (fun k => A.length - k) [0, 1, 2, 3, 10] hbs (by exact hk1) (fun q jq b hb => by simp only [List.mem_singleton] at hb; subst hb; exact zCt _) (fun k jk => ?_) (s := 0) [0] ?_ ?_ ?_ ?_ ?_ ?_)
   | (refine zAR (fun h => ?_) (fun h => ?_) <;> (try simp only [cN] at h))
   | (refine zAN ?_ ?_)
   | simp (config := { decide := true }) only [↓cD, cU, cQ, cP, cB, zAJ, unD, zAf, zAd, idx, reduceCtorEq, ↓reduceIte, ofV, ofC, zAq, Nat.reduceEqDiff, zAG, cG, implies_true, forall_const, immL, immD, Res.flat, ren, renL, Int.reduceEq, Int.reduceLT, Int.reduceLE, Int.reduceNe, deref, ldD, zAF, zAk, zAI, zAs, cC, cS, refs, zAD, okId, List.all_nil, List.all_cons, Nat.reduceMul, Nat.reduceAdd, Nat.reduceLeDiff, zAv, ↓zAM, ↓zAQ, ↓zAL, ↓zAP, ↓zAK, ↓zAO, cV, cT, cF, cW, borT, borM, zAm, Res.via, zAu, zAb, refsB, Nat.reduceLT, Nat.reduceSub, Nat.reduceLeDiff, Nat.reduceMul, Nat.reduceAdd, Int.reduceToNat, appK, zAr, zAc, borL, zAl, zAn, zAE, cO, List.replicate, zAC, ofHp, ixOf, cS, refs, zAD, okId, List.all_nil, List.all_cons, Nat.reduceMul, Nat.reduceAdd, Nat.reduceLeDiff, zAv, zDH, zJk, updL, hw, hw1, hw2, hb1, hb2, hb3, yEA hl.1, zXB hl.1, yEz hl.1, zKi, yEy hl.1, hP, *]
 all_goals first
   | rfl
   | omega
   | (refine ⟨[0], k + 1, ?_, ?_, ?_, ?_, ?_, by omega, by omega⟩ <;> rfl)
   | (rw [show k = A.length by omega]; have hl1 := hl.1; have e : swW P A M B S A.length = P ++ B ++ M ++ A ++ S := (by unfold swW; rw [List.take_of_length_le (by omega), List.drop_of_length_le (Nat.le_refl _), List.take_of_length_le (Nat.le_refl _), List.drop_of_length_le (by omega)]; simp); rw [e]; exact ⟨_, rfl, zCt _, by simp, rfl⟩)
   | (rw [show swW P A M B S 0 = P ++ A ++ M ++ B ++ S by simp [swW]]; rfl)
   | (simp [swW]; done)
theorem zGh {l r : List Rec} (h : l.map recE = r.map recE) : l = r := (List.map_inj_right (fun a b => by simp only [zYf, imp_self])).1 h
theorem zGb {α : Type} {a b c d : List α} (h : a ++ b = c ++ d) (hl : a.length = c.length) : a = c ∧ b = d := List.append_inj h hl

noncomputable def FSwR  := mkE (fun s : List Rec × List Rec × List Rec × List Rec × List Rec => .own 0 0 (s.1 ++ s.2.1 ++ s.2.2.1 ++ s.2.2.2.1 ++ s.2.2.2.2).length :: [.it .i64 s.1.length, .it .i64 ((s.1.length + s.2.1.length + s.2.2.1.length : Nat) : Int), .it .i64 s.2.1.length, .fn (.func 80) [] []]) (fun s => .row 16 true ((s.1 ++ s.2.1 ++ s.2.2.1 ++ s.2.2.2.1 ++ s.2.2.2.2).map recE)) (fun s => SwP s.1 s.2.1 s.2.2.1 s.2.2.2.1 s.2.2.2.2) (fun s => (.tup [], [.row 16 true ((s.1 ++ s.2.2.2.1 ++ s.2.2.1 ++ s.2.1 ++ s.2.2.2.2).map recE)]))
theorem yGY  {P A M B S : List Rec} (hp : SwP P A M B S) : FSwR (.own 0 0 (P ++ A ++ M ++ B ++ S).length :: [.it .i64 P.length, .it .i64 ((P.length + A.length + M.length : Nat) : Int), .it .i64 A.length, .fn (.func 80) [] []]) [.row 16 true ((P ++ A ++ M ++ B ++ S).map recE)] = some (.tup [], [.row 16 true ((P ++ B ++ M ++ A ++ S).map recE)]) := by
 refine zIu (s := (P, A, M, B, S)) ?_ hp
 rintro ⟨P, A, M, B, S⟩ ⟨P', A', M', B', S'⟩ p1 p2 h1 h2
 simp only [List.cons.injEq, D.own.injEq, D.it.injEq, true_and, and_true, Int.ofNat_inj] at h1
 have h3 := zGh (Blk.row.inj h2).2.2
 simp only [List.length_append] at h1
 simp only [] at h3
 have q1 := p1.1; have q2 := p2.1
 simp only at q1 q2
 simp only [List.append_assoc] at h3
 obtain ⟨e1, h3⟩ := zGb h3 (by omega)
 obtain ⟨e2, h3⟩ := zGb h3 (by omega)
 obtain ⟨e3, h3⟩ := zGb h3 (by omega)
 obtain ⟨e4, e5⟩ := zGb h3 (by omega)
 subst e1; subst e2; subst e3; subst e4; subst e5; rfl
theorem zUp  {P A M B S l l' : List Rec} {tot nid : Nat} {rest : List D} (hp : SwP P A M B S) (hl : l = P ++ A ++ M ++ B ++ S) (hl' : l' = P ++ B ++ M ++ A ++ S) (ht : tot = l.length) (hr : rest = [.it .i64 P.length, .it .i64 ((P.length + A.length + M.length : Nat) : Int), .it .i64 A.length, .fn (.func 80) [] []]) : zEN (FSwR) (.own 0 0 tot :: rest) (ofHp [.row 16 true (l.map recE)]) nid = some (.tup [], ofHp [.row 16 true (l'.map recE)], nid) := by
 subst hr; subst ht; subst hl; subst hl'
 exact zYT rfl (yGY hp)
def RotP (P A B S : List Rec) : Prop := A ≠ [] ∧ B ≠ [] ∧ P.length + A.length + B.length + S.length ≤ 1000000
abbrev Rq := List Rec × List Rec × List Rec × List Rec
def rotL (P S : List Rec) (q : Rq) : List Rec := P ++ q.1 ++ q.2.1 ++ q.2.2.1 ++ q.2.2.2 ++ S
structure RotJ (P A B S : List Rec) (q : Rq) : Prop where
 p : RotP P A B S
 ha : q.2.1 ≠ []
 hb : q.2.2.1 ≠ []
 m : q.1.length + q.2.1.length = A.length
 t : q.1.length + q.2.1.length + q.2.2.1.length + q.2.2.2.length = A.length + B.length
 e : q.1 ++ q.2.2.1 ++ q.2.1 ++ q.2.2.2 = B ++ A
def rotM (P A B S : List Rec) : Nat := P.length + A.length
def rotI (q : Rq) : Nat := q.2.1.length
def rotK (q : Rq) : Nat := q.2.2.1.length
def rotT (P A B S : List Rec) : Nat := (P ++ A ++ B ++ S).length
theorem zCa {l : List Rec} (h : l ≠ []) : 0 < l.length := List.length_pos_iff.2 h
theorem zJS {P A B S : List Rec} {q : Rq} (j : RotJ P A B S q) : 0 < rotI q ∧ 0 < rotK q ∧ rotI q ≤ rotM P A B S ∧ rotI q ≤ 1000000 ∧ rotK q ≤ 1000000 ∧ rotM P A B S + rotK q ≤ 1000000 := by
 have h1 := zCa j.ha; have h2 := zCa j.hb; have h3 := j.m; have h4 := j.t; have h5 := j.p.2.2
 unfold rotI rotK rotM; omega
def zLF (q : Rq) : Rq := (q.1 ++ q.2.2.1, q.2.1.drop (rotK q), q.2.1.take (rotK q), q.2.2.2)
def zLE (q : Rq) : Rq := (q.1, q.2.2.1.drop (rotK q - rotI q), q.2.2.1.take (rotK q - rotI q), q.2.1 ++ q.2.2.2)
theorem zX7 {q : Rq} : rotI (zLF q) = rotI q - rotK q := by simp [rotI, zLF]
theorem zX6 {q : Rq} (h : rotK q < rotI q) : rotK (zLF q) = rotK q := by
 have h' : q.2.2.1.length < q.2.1.length := h
 simp only [rotK, zLF, List.length_take]; omega
theorem zX5 {q : Rq} (h : rotI q < rotK q) : rotI (zLE q) = rotI q := by
 have h' : q.2.1.length < q.2.2.1.length := h
 simp only [rotI, rotK, zLE, List.length_drop]; omega
theorem zX4 {q : Rq} (h : rotI q < rotK q) : rotK (zLE q) = rotK q - rotI q := by
 have h' : q.2.1.length < q.2.2.1.length := h
 simp only [rotI, rotK, zLE, List.length_take]; omega
theorem yE1 {P A B S : List Rec} {q : Rq} (j : RotJ P A B S q) (h : rotK q < rotI q) : RotJ P A B S (zLF q) := by
 have h' : q.2.2.1.length < q.2.1.length := h
 have h1 := zCa j.ha; have h2 := zCa j.hb; have h3 := j.m; have h4 := j.t
 refine ⟨j.p, ?_, ?_, ?_, ?_, ?_⟩
 · exact List.ne_nil_of_length_pos (by simp only [zLF, rotK, List.length_drop]; omega)
 · exact List.ne_nil_of_length_pos (by simp only [zLF, rotK, List.length_take]; omega)
 · simp only [zLF, rotK, List.length_append, List.length_drop]; omega
 · simp only [zLF, rotK, List.length_append, List.length_drop, List.length_take]; omega
 · rw [← j.e]; simp only [zLF, rotK, List.append_assoc]; rw [← List.append_assoc (q.2.1.take _), List.take_append_drop]
theorem yE0 {P A B S : List Rec} {q : Rq} (j : RotJ P A B S q) (h : rotI q < rotK q) : RotJ P A B S (zLE q) := by
 have h' : q.2.1.length < q.2.2.1.length := h
 have h1 := zCa j.ha; have h2 := zCa j.hb; have h3 := j.m; have h4 := j.t
 refine ⟨j.p, ?_, ?_, ?_, ?_, ?_⟩
 · exact List.ne_nil_of_length_pos (by simp only [zLE, rotK, rotI, List.length_drop]; omega)
 · exact List.ne_nil_of_length_pos (by simp only [zLE, rotK, rotI, List.length_take]; omega)
 · simp only [zLE, rotK, rotI, List.length_drop]; omega
 · simp only [zLE, rotK, rotI, List.length_append, List.length_drop, List.length_take]; omega
 · rw [← j.e]; simp only [zLE, rotK, rotI, List.append_assoc]; rw [← List.append_assoc (q.2.2.1.take _), List.take_append_drop]
theorem yHT {P A B S : List Rec} {q : Rq} (j : RotJ P A B S q) (hi : (rotK q : Int) < rotI q) {nid : Nat} : zEN FSwR [.own 0 0 (rotT P A B S), .it .i64 ((rotM P A B S - rotI q : Nat) : Int), .it .i64 (rotM P A B S : Int), .it .i64 (rotK q : Int), .fn (.func 80) [] []] (ofHp [.row 16 true ((rotL P S q).map recE)]) nid =
   some (.tup [], ofHp [.row 16 true ((rotL P S (zLF q)).map recE)], nid) := by
 have h : rotK q < rotI q := by omega
 have h' : q.2.2.1.length < q.2.1.length := h
 have h3 := j.m; have h4 := j.t; have h5 := j.p.2.2
 have e1 : q.2.1 = q.2.1.take (rotK q) ++ q.2.1.drop (rotK q) := (List.take_append_drop _ _).symm
 refine zUp (P := P ++ q.1) (A := q.2.1.take (rotK q)) (M := q.2.1.drop (rotK q)) (B := q.2.2.1) (S := q.2.2.2 ++ S) ⟨?_, ?_⟩ ?_ ?_ ?_ ?_
 · rw [List.length_take]; show min q.2.2.1.length _ = _; omega
 · simp only [List.length_append, List.length_take, List.length_drop, rotK]; omega
 · unfold rotL; conv => lhs; rw [e1]
   simp only [List.append_assoc]
 · simp only [rotL, zLF, List.append_assoc]
 · simp only [rotT, rotL, List.length_append]; omega
 · simp only [List.length_append, List.length_take, List.length_drop, rotM, rotI, rotK, List.cons.injEq, D.it.injEq, true_and, and_true, Int.ofNat_inj]
   omega
theorem yHS {P A B S : List Rec} {q : Rq} (j : RotJ P A B S q) (hn : ¬ (rotI q : Int) = rotK q) (hi : ¬ (rotK q : Int) < rotI q) {nid : Nat} : zEN FSwR [.own 0 0 (rotT P A B S), .it .i64 ((rotM P A B S - rotI q : Nat) : Int), .it .i64 ((rotM P A B S + rotK q - rotI q : Nat) : Int), .it .i64 (rotI q : Int), .fn (.func 80) [] []] (ofHp [.row 16 true ((rotL P S q).map recE)]) nid =
   some (.tup [], ofHp [.row 16 true ((rotL P S (zLE q)).map recE)], nid) := by
 have h : rotI q < rotK q := by omega
 have h' : q.2.1.length < q.2.2.1.length := h
 have h3 := j.m; have h4 := j.t; have h5 := j.p.2.2
 have e1 : q.2.2.1 = q.2.2.1.take (rotK q - rotI q) ++ q.2.2.1.drop (rotK q - rotI q) := (List.take_append_drop _ _).symm
 refine zUp (P := P ++ q.1) (A := q.2.1) (M := q.2.2.1.take (rotK q - rotI q)) (B := q.2.2.1.drop (rotK q - rotI q)) (S := q.2.2.2 ++ S) ⟨?_, ?_⟩ ?_ ?_ ?_ ?_
 · rw [List.length_drop]; simp only [rotK, rotI]; omega
 · simp only [List.length_append, List.length_take, List.length_drop, rotK, rotI]; omega
 · unfold rotL; conv => lhs; rw [e1]
   simp only [List.append_assoc]
 · simp only [rotL, zLE, List.append_assoc]
 · simp only [rotT, rotL, List.length_append]; omega
 · simp only [List.length_append, List.length_take, List.length_drop, rotM, rotI, rotK, List.cons.injEq, D.it.injEq, true_and, and_true, Int.ofNat_inj]
   omega
theorem yHU {P A B S : List Rec} {q : Rq} (j : RotJ P A B S q) (h : (rotI q : Int) = rotK q) {nid : Nat} : zEN FSwR [.own 0 0 (rotT P A B S), .it .i64 ((rotM P A B S - rotK q : Nat) : Int), .it .i64 (rotM P A B S : Int), .it .i64 (rotK q : Int), .fn (.func 80) [] []] (ofHp [.row 16 true ((rotL P S q).map recE)]) nid =
   some (.tup [], ofHp [.row 16 true ((P ++ B ++ A ++ S).map recE)], nid) := by
 have h' : q.2.1.length = q.2.2.1.length := by have : (q.2.1.length : Int) = q.2.2.1.length := h; omega
 have h3 := j.m; have h4 := j.t; have h5 := j.p.2.2
 refine zUp (P := P ++ q.1) (A := q.2.1) (M := []) (B := q.2.2.1) (S := q.2.2.2 ++ S) ⟨h', ?_⟩ ?_ ?_ ?_ ?_
 · simp only [List.length_append, List.length_nil]; omega
 · simp only [rotL, List.append_assoc, List.nil_append]
 · rw [List.append_assoc P B A, ← j.e]; simp only [List.append_assoc, List.nil_append]
 · simp only [rotT, rotL, List.length_append]; omega
 · simp only [List.length_append, List.length_nil, rotM, rotI, rotK, List.cons.injEq, D.it.injEq, true_and, and_true, Int.ofNat_inj]
   omega

theorem zM4 (cx : Cx) (hP : cx.P = Tryz.prog) (hbs : cx.bs = 1) (xn200 : cx.orc 200 = none) (xe200 : cx.ext 200 = none) (xf200 : cx.eff 200 = some FSwR) (hk2 : cx.kp 2 = some [0, 2, 4, 10, 11]) (P A B S : List Rec) (hl : RotP P A B S) : zFl cx Tryz.f182 [.own 0 0 (rotT P A B S), .it .i64 P.length, .it .i64 (rotM P A B S : Int), .it .i64 ((P.length + A.length + B.length : Nat) : Int), .fn (.func 80) [] []] [.row 16 true ((P ++ A ++ B ++ S).map recE)] = some ((.tup [], [.row 16 true ((P ++ B ++ A ++ S).map recE)])) := by
 have cf200 := fun H nid l => (show zDD cx 200 l H nid = _ from zCD xn200 xe200 xf200)
 have hw1 : IntKind.i64.wrap ((rotM P A B S : Int) - (P.length : Int)) = (A.length : Int) := by have := hl.2.2; unfold rotM; rw [wrap64 (by omega) (by omega)]; omega
 have hw2 : IntKind.i64.wrap (((P.length + A.length + B.length : Nat) : Int) - (rotM P A B S : Int)) = (B.length : Int) := by have := hl.2.2; unfold rotM; rw [wrap64 (by omega) (by omega)]; omega
 have hw3 : ∀ q, RotJ P A B S q → IntKind.i64.wrap ((rotM P A B S : Int) - (rotI q : Int)) = ((rotM P A B S - rotI q : Nat) : Int) := fun q j => by have := zJS j; rw [wrap64 (by omega) (by omega)]; omega
 have hw4 : ∀ q, RotJ P A B S q → IntKind.i64.wrap ((rotM P A B S : Int) + (rotK q : Int)) = ((rotM P A B S + rotK q : Nat) : Int) := fun q j => by have := zJS j; rw [wrap64 (by omega) (by omega)]; omega
 have hw5 : ∀ q, RotJ P A B S q → IntKind.i64.wrap (((rotM P A B S + rotK q : Nat) : Int) - (rotI q : Int)) = ((rotM P A B S + rotK q - rotI q : Nat) : Int) := fun q j => by have := zJS j; rw [wrap64 (by omega) (by omega)]; omega
 have hw6 : ∀ q, RotJ P A B S q → (rotK q : Int) < rotI q → IntKind.i64.wrap ((rotI q : Int) - (rotK q : Int)) = (rotI (zLF q) : Int) := fun q j h' => by have h : rotK q < rotI q := (by omega); have := zJS j; rw [zX7, wrap64 (by omega) (by omega)]; omega
 have hw7 : ∀ q, RotJ P A B S q → ¬ (rotI q : Int) = rotK q → ¬ (rotK q : Int) < rotI q → IntKind.i64.wrap ((rotK q : Int) - (rotI q : Int)) = (rotK (zLE q) : Int) := fun q j h1 h2 => by have h : rotI q < rotK q := (by omega); have := zJS j; rw [zX4 h, wrap64 (by omega) (by omega)]; omega
 have hw8 : ∀ q, RotJ P A B S q → (rotI q : Int) = rotK q → IntKind.i64.wrap ((rotM P A B S : Int) - (rotK q : Int)) = ((rotM P A B S - rotK q : Nat) : Int) := fun q j h => by have := zJS j; rw [wrap64 (by omega) (by omega)]; omega
 refine zJ7 (rs := []) rfl hbs rfl ?_
 repeat' first
   | (refine zBz (σ := Rq) (fun q => [.own 0 0 (rotT P A B S), .it .i64 (rotM P A B S : Int), .fn (.func 80) [] [], .it .i64 (rotI q : Int), .it .i64 (rotK q : Int)]) (fun q => [.row 16 true ((rotL P S q).map recE)]) (fun q => RotJ P A B S q) (fun q => rotI q + rotK q) [0, 2, 4, 10, 11] hbs (by exact hk2) (fun q jq b hb => by simp only [List.mem_singleton] at hb; subst hb; exact zCt _) (fun q jq => ?_) (s := ([], A, B, [])) [0] ?_ ?_ ?_ ?_ ?_ ?_)
   | (refine zAR (fun h => ?_) (fun h => ?_) <;> (try simp only [cN] at h))
   | (refine zAN ?_ ?_)
   | simp only [↓cD, cU, cQ, cP, cB, zAJ, unD, zAf, zAd, idx, reduceCtorEq, ↓reduceIte, ofV, ofC, zAq, Nat.reduceEqDiff, zAG, cG, implies_true, forall_const, immL, immD, Res.flat, ren, renL, Int.reduceEq, Int.reduceLT, Int.reduceLE, Int.reduceNe, deref, ldD, zAF, zAk, zAI, zAs, cC, ↓zAM, ↓zAQ, ↓zAL, ↓zAP, ↓zAK, ↓zAO, cV, cT, cF, cW, borT, borM, zAm, Res.via, zAu, zAb, refsB, Nat.reduceLT, Nat.reduceSub, Nat.reduceLeDiff, Nat.reduceMul, Nat.reduceAdd, Int.reduceToNat, appK, zAr, zAc, borL, zAl, zAn, zAE, cO, List.replicate, zAC, ofHp, ixOf, hw1, hw2, hw3, hw4, hw5, hw6, hw7, hw8, yHT, yHS, yHU, hP, *]
 all_goals first
   | rfl
   | omega
   | exact ⟨_, rfl, zCt _, by simp, rfl⟩
   | (simp [rotL]; done)
   | exact ⟨hl, hl.1, hl.2.1, by simp, by simp, by simp⟩
   | (refine ⟨[0], zLF q, ?_, ?_, ?_, ?_, ?_, yE1 jq (by omega), by rw [zX7, zX6 (by omega)]; have := zJS jq; omega⟩ <;> first | rfl | (rw [zX6 (by omega)]; rfl))
   | (refine ⟨[0], zLE q, ?_, ?_, ?_, ?_, ?_, yE0 jq (by omega), by rw [zX4 (by omega), zX5 (by omega)]; have := zJS jq; omega⟩ <;> first | rfl | (rw [zX5 (by omega)]; rfl))
structure Wk {α : Type} (lt : α → α → Bool) : Prop where
 irr : ∀ a, lt a a = false
 tr : ∀ {a b c}, lt a b = true → lt b c = true → lt a c = true
 ntr : ∀ {a b c}, lt a b = false → lt b c = false → lt a c = false
section stable
variable {α : Type} {lt : α → α → Bool}
theorem Wk.asym (h : Wk lt) {a b : α} (k : lt a b = true) : lt b a = false := by
 cases h2 : lt b a with
 | false => rfl
 | true => have := h.tr k h2; rw [h.irr] at this; cases this
theorem Wk.lt_le (h : Wk lt) {a b c : α} (k : lt a b = true) (k2 : lt c b = false) : lt a c = true := by
 cases h2 : lt a c with
 | true => rfl
 | false => have := h.ntr h2 k2; rw [k] at this; cases this
theorem Wk.le_lt (h : Wk lt) {a b c : α} (k : lt b a = false) (k2 : lt b c = true) : lt a c = true := by
 cases h2 : lt a c with
 | true => rfl
 | false => have := h.ntr k h2; rw [k2] at this; cases this
def Srt (lt : α → α → Bool) (l : List α) : Prop := l.Pairwise fun a b => lt b a = false
def cls (lt : α → α → Bool) (z : α) (l : List α) : List α := l.filter fun x => !lt x z && !lt z x
theorem zIJ (z : α) (l r : List α) : cls lt z (l ++ r) = cls lt z l ++ cls lt z r := by simp [cls]
theorem zQY (z x : α) (l : List α) : cls lt z (x :: l) = cls lt z [x] ++ cls lt z l := by rw [← zIJ]; rfl
theorem mem_cls {z x : α} {l : List α} : x ∈ cls lt z l ↔ x ∈ l ∧ lt x z = false ∧ lt z x = false := by simp [cls]
theorem zKg (h : Wk lt) : ∀ (l r : List α), Srt lt l → Srt lt r → (∀ z, cls lt z l = cls lt z r) → l = r
 | [], [], _, _, _ => rfl
 | [], y :: r, _, _, hc => by
   have := hc y
   have hm : y ∈ cls lt y (y :: r) := mem_cls.2 ⟨by simp, h.irr y, h.irr y⟩
   rw [← this] at hm; simp [cls] at hm
 | x :: l, [], _, _, hc => by
   have := hc x
   have hm : x ∈ cls lt x (x :: l) := mem_cls.2 ⟨by simp, h.irr x, h.irr x⟩
   rw [this] at hm; simp [cls] at hm
 | x :: l, y :: r, hl, hr, hc => by
   have hx : x ∈ y :: r := (mem_cls.1 (show x ∈ cls lt x (y :: r) by rw [← hc x]; exact mem_cls.2 ⟨by simp, h.irr x, h.irr x⟩)).1
   have hy : y ∈ x :: l := (mem_cls.1 (show y ∈ cls lt y (x :: l) by rw [hc y]; exact mem_cls.2 ⟨by simp, h.irr y, h.irr y⟩)).1
   have h1 : lt x y = false := by
     rcases List.mem_cons.1 hx with e | hx
     · rw [e]; exact h.irr y
     · exact (List.pairwise_cons.1 hr).1 x hx
   have h2 : lt y x = false := by
     rcases List.mem_cons.1 hy with e | hy
     · rw [e]; exact h.irr x
     · exact (List.pairwise_cons.1 hl).1 y hy
   have e : x = y := by
     have := hc x
     simp only [cls, List.filter_cons, h.irr, h1, h2, Bool.not_false, Bool.and_self, if_true] at this
     exact (List.cons.inj this).1
   subst e
   rw [zKg h l r (List.pairwise_cons.1 hl).2 (List.pairwise_cons.1 hr).2 (fun z => by
     have := hc z
     rw [zQY z x l, zQY z x r] at this
     exact List.append_cancel_left this)]
def insS (lt : α → α → Bool) (out : List α) (x : α) : List α := out.filter (fun y => !lt x y) ++ x :: out.filter (fun y => lt x y)
def stS (lt : α → α → Bool) (l : List α) : List α := l.foldl (insS lt) []
theorem zVg (h : Wk lt) {out : List α} (x : α) (ho : Srt lt out) : Srt lt (insS lt out x) := by
 unfold insS Srt
 rw [List.pairwise_append]
 refine ⟨ho.sublist List.filter_sublist, List.pairwise_cons.2 ⟨fun y hy => ?_, ho.sublist List.filter_sublist⟩, fun a ha b hb => ?_⟩
 · exact h.asym (by simpa using (List.mem_filter.1 hy).2)
 · have h1 : lt x a = false := by simpa using (List.mem_filter.1 ha).2
   rcases List.mem_cons.1 hb with rfl | hb
   · exact h1
   · have h2 : lt x b = true := by simpa using (List.mem_filter.1 hb).2
     exact h.asym (h.le_lt h1 h2)
theorem yCm (h : Wk lt) (out : List α) (x z : α) : cls lt z (insS lt out x) = cls lt z (out ++ [x]) := by
 unfold insS
 rw [zIJ, zQY, zIJ]
 have hf : ∀ (p : α → Bool), cls lt z (out.filter p) = (cls lt z out).filter p := fun p => by simp only [cls, List.filter_filter]; congr 1; funext y; exact Bool.and_comm _ _
 rw [hf, hf]
 by_cases hx : lt x z = false ∧ lt z x = false
 · have h1 : ∀ y ∈ cls lt z out, lt x y = false := fun y hy => h.ntr hx.1 (mem_cls.1 hy).2.2
   rw [List.filter_eq_self.2 (fun y hy => by rw [h1 y hy]; rfl), List.filter_eq_nil_iff.2 (fun y hy => by rw [h1 y hy]; decide), List.append_nil]
 · have hxn : cls lt z [x] = [] := by
     simp only [cls, List.filter_cons, List.filter_nil]
     rw [if_neg]
     simpa using hx
   rw [hxn, List.nil_append, List.append_nil]
   cases hz : lt x z with
   | true =>
     have h1 : ∀ y ∈ cls lt z out, lt x y = true := fun y hy => h.lt_le hz (mem_cls.1 hy).2.1
     rw [List.filter_eq_nil_iff.2 (fun y hy => by rw [h1 y hy]; decide), List.filter_eq_self.2 (fun y hy => h1 y hy), List.nil_append]
   | false =>
     have hz2 : lt z x = true := by
       cases h2 : lt z x with
       | true => rfl
       | false => exact absurd ⟨hz, h2⟩ hx
     have h1 : ∀ y ∈ cls lt z out, lt x y = false := fun y hy => h.asym (h.le_lt (mem_cls.1 hy).2.2 hz2)
     rw [List.filter_eq_self.2 (fun y hy => by rw [h1 y hy]; rfl), List.filter_eq_nil_iff.2 (fun y hy => by rw [h1 y hy]; decide), List.append_nil]
theorem zMB (h : Wk lt) : ∀ (l out : List α), Srt lt out → Srt lt (l.foldl (insS lt) out) ∧ ∀ z, cls lt z (l.foldl (insS lt) out) = cls lt z (out ++ l)
 | [], out, ho => ⟨ho, fun z => by simp⟩
 | x :: r, out, ho => by
   obtain ⟨h1, h2⟩ := zMB h r _ (zVg h x ho)
   refine ⟨h1, fun z => ?_⟩
   rw [List.foldl_cons, h2 z, zIJ, yCm h, ← zIJ, List.append_assoc]; rfl
theorem zJl (h : Wk lt) (l : List α) : Srt lt (stS lt l) := (zMB h l [] List.Pairwise.nil).1
theorem zKL (h : Wk lt) (l : List α) (z : α) : cls lt z (stS lt l) = cls lt z l := (zMB h l [] List.Pairwise.nil).2 z
theorem zP8 (h : Wk lt) {l r : List α} (hr : Srt lt r) (hc : ∀ z, cls lt z r = cls lt z l) : stS lt l = r := zKg h _ _ (zJl h l) hr fun z => (zKL h l z).trans (hc z).symm
theorem zHc (h : Wk lt) {l : List α} (hl : Srt lt l) : stS lt l = l := zP8 h hl fun _ => rfl
theorem zYP (h : Wk lt) {l : List α} {x : α} : x ∈ stS lt l ↔ x ∈ l := by
 have h1 : ∀ r : List α, x ∈ r ↔ x ∈ cls lt x r := fun r => ⟨fun hx => mem_cls.2 ⟨hx, h.irr x, h.irr x⟩, fun hx => (mem_cls.1 hx).1⟩
 rw [h1 (stS lt l), h1 l, zKL h]
theorem zVs (p : α → Bool) : ∀ l : List α, (l.filter fun y => !p y).length + (l.filter p).length = l.length
 | [] => rfl
 | x :: r => by
   have := zVs p r
   cases hx : p x <;> simp only [List.filter_cons, hx, Bool.not_true, Bool.not_false, if_true, if_false, Bool.false_eq_true, List.length_cons] <;> omega
theorem zXI : ∀ (l out : List α), (l.foldl (insS lt) out).length = out.length + l.length
 | [], out => rfl
 | x :: r, out => by
   have h1 : (insS lt out x).length = out.length + 1 := by
     have := zVs (fun y => lt x y) out
     simp only [insS, List.length_append, List.length_cons]; omega
   rw [List.foldl_cons, zXI r, h1, List.length_cons]; omega
theorem zEz (l : List α) : (stS lt l).length = l.length := by rw [stS, zXI]; simp
theorem zK4 (h : Wk lt) {L1 L2 R1 R2 : List α} (hL : Srt lt (L1 ++ L2)) (hR : Srt lt (R1 ++ R2)) (h1 : ∀ x ∈ L2, ∀ y ∈ R1, lt y x = true) (h2 : ∀ x ∈ L1, ∀ y ∈ R2, lt y x = false) :
   stS lt (L1 ++ L2 ++ (R1 ++ R2)) = stS lt (L1 ++ R1) ++ stS lt (L2 ++ R2) := by
 obtain ⟨l1, l2, l3⟩ := List.pairwise_append.1 hL
 obtain ⟨r1, r2, r3⟩ := List.pairwise_append.1 hR
 refine zP8 h ?_ fun z => ?_
 · refine List.pairwise_append.2 ⟨zJl h _, zJl h _, fun x hx y hy => ?_⟩
   rw [zYP h, List.mem_append] at hx hy
   rcases hx with hx | hx <;> rcases hy with hy | hy
   · exact l3 x hx y hy
   · exact h2 x hx y hy
   · exact h.asym (h1 y hy x hx)
   · exact r3 x hx y hy
 · simp only [zIJ, zKL h, List.append_assoc]
   congr 1
   rw [← List.append_assoc, ← List.append_assoc]
   congr 1
   by_cases ha : cls lt z R1 = []
   · rw [ha]; simp
   · by_cases hb : cls lt z L2 = []
     · rw [hb]; simp
     · exfalso
       obtain ⟨y, hy⟩ := List.exists_mem_of_ne_nil _ ha
       obtain ⟨x, hx⟩ := List.exists_mem_of_ne_nil _ hb
       rw [mem_cls] at hx hy
       have h3 := h1 x hx.1 y hy.1
       have h4 := h.ntr hy.2.1 hx.2.2
       rw [h3] at h4; cases h4
theorem yHy {l : List α} (h : Srt lt l) {i j : Nat} (hij : i < j) (hj : j < l.length) : lt l[j] (l[i]'(by omega)) = false := List.pairwise_iff_getElem.1 h i j (by omega) hj hij
theorem zIe (hw : Wk lt) {l : List α} (h : Srt lt l) {i j : Nat} (hij : i ≤ j) (hj : j < l.length) : lt l[j] (l[i]'(by omega)) = false := by
 rcases Nat.lt_or_eq_of_le hij with h1 | h1
 · exact yHy h h1 hj
 · subst h1; exact hw.irr _
end stable

def ltR (a b : Rec) : Bool := decide (cmpR a b < 0)

structure Cmp {α : Type} (c : α → α → Int) : Prop where
 sym : ∀ a b, c a b < 0 ↔ 0 < c b a
 tr : ∀ {x y z}, c x y ≤ 0 → c y z ≤ 0 → c x z ≤ 0
theorem Cmp.zero {α : Type} {c : α → α → Int} (h : Cmp c) {a b : α} : c a b = 0 ↔ c b a = 0 := by
 have h1 := h.sym a b; have h2 := h.sym b a; omega
theorem Cmp.self {α : Type} {c : α → α → Int} (h : Cmp c) (a : α) : c a a = 0 := by
 have h1 := h.sym a a; omega
theorem Cmp.wk {α : Type} {c : α → α → Int} (h : Cmp c) : Wk (fun a b => decide (c a b < 0)) := by
 refine ⟨fun a => decide_eq_false (by have := h.self a; omega), fun {x y z} h1 h2 => ?_, fun {x y z} h1 h2 => ?_⟩
 · have h1 := of_decide_eq_true h1; have h2 := of_decide_eq_true h2
   apply decide_eq_true
   have s1 := h.sym x z; have s2 := h.sym z x; have s3 := h.sym x y; have s4 := h.sym y z
   apply Classical.byContradiction
   intro hn
   have h3 : c y x ≤ 0 := h.tr (x := y) (y := z) (z := x) (by omega) (by omega)
   omega
 · have h1 := of_decide_eq_false h1; have h2 := of_decide_eq_false h2
   apply decide_eq_false
   have s1 := h.sym x z; have s2 := h.sym z x; have s3 := h.sym y x; have s4 := h.sym z y
   have s5 := h.sym x y; have s6 := h.sym y z
   have h3 : c z x ≤ 0 := h.tr (x := z) (y := y) (z := x) (by omega) (by omega)
   omega
theorem Cmp.lex {α : Type} {c d : α → α → Int} (h : Cmp c) (s : ∀ a b, c a b = 0 → (d a b < 0 ↔ 0 < d b a)) (t : ∀ {x y z}, c x y = 0 → c y z = 0 → d x y ≤ 0 → d y z ≤ 0 → d x z ≤ 0) : Cmp (fun a b => if ¬ c a b = 0 then c a b else d a b) := by
 refine ⟨fun a b => ?_, fun {x y z} h1 h2 => ?_⟩
 · have h1 := h.sym a b; have h2 := h.sym b a
   by_cases hz : c a b = 0
   · have hz' : c b a = 0 := h.zero.1 hz
     simp only [hz, hz', not_true_eq_false, if_false]; exact s a b hz
   · have hz' : ¬ c b a = 0 := fun e => hz (h.zero.2 e)
     simp only [hz, hz', not_false_eq_true, if_true]; exact h1
 · have k1 : c x y ≤ 0 := by by_cases hz : c x y = 0 <;> simp only [hz, not_true_eq_false, not_false_eq_true, if_false, if_true] at h1 <;> omega
   have k2 : c y z ≤ 0 := by by_cases hz : c y z = 0 <;> simp only [hz, not_true_eq_false, not_false_eq_true, if_false, if_true] at h2 <;> omega
   have k3 := h.tr k1 k2
   by_cases hz : c x z = 0
   · have z1 : c z x = 0 := h.zero.1 hz
     have a1 : c y x ≤ 0 := h.tr k2 (by omega)
     have a2 : c z y ≤ 0 := h.tr (by omega) k1
     have s1 := h.sym x y; have s2 := h.sym y x; have s3 := h.sym y z; have s4 := h.sym z y
     have e1 : c x y = 0 := by omega
     have e2 : c y z = 0 := by omega
     simp only [e1, not_true_eq_false, if_false] at h1
     simp only [e2, not_true_eq_false, if_false] at h2
     simp only [hz, not_true_eq_false, if_false]
     exact t e1 e2 h1 h2
   · simp only [hz, not_false_eq_true, if_true]; exact k3
theorem Cmp.on {α β : Type} {c : β → β → Int} (h : Cmp c) (f : α → β) : Cmp (fun a b => c (f a) (f b)) := ⟨fun a b => h.sym _ _, fun h1 h2 => h.tr h1 h2⟩
theorem cmp_num : Cmp numC := by
 refine ⟨fun a b => ?_, fun {x y z} h1 h2 => ?_⟩
 · unfold numC; split <;> split <;> (try split) <;> omega
 · unfold numC at *; split at h1 <;> split at h2 <;> split <;> (try split at h1) <;> (try split at h2) <;> (try split) <;> omega
theorem zDc {a b : Int} (h : numC a b = 0) : a = b := by
 unfold numC at h; split at h
 · omega
 · split at h <;> omega
theorem zUh (a b : UInt8) (x y : List UInt8) : Op.bytesLess (a :: x) (b :: y) = true ↔ a < b ∨ (a = b ∧ Op.bytesLess x y = true) := by
 rw [Op.bytesLess]
 by_cases h1 : a < b <;> by_cases h2 : a = b <;> simp [h1, h2]
theorem yAt : ∀ {a b c : List UInt8}, Op.bytesLess a b = true → Op.bytesLess b c = true → Op.bytesLess a c = true
 | [], [], _, h, _ => by simp [Op.bytesLess] at h
 | [], _ :: _, [], _, h => by simp [Op.bytesLess] at h
 | [], _ :: _, _ :: _, _, _ => by simp [Op.bytesLess]
 | _ :: _, [], _, h, _ => by simp [Op.bytesLess] at h
 | _ :: _, _ :: _, [], _, h => by simp [Op.bytesLess] at h
 | a :: x, b :: y, c :: z, h1, h2 => by
   rw [zUh] at *
   rcases h1 with h1 | ⟨rfl, h1⟩
   · rcases h2 with h2 | ⟨rfl, h2⟩
     · exact .inl (UInt8.lt_trans h1 h2)
     · exact .inl h1
   · rcases h2 with h2 | ⟨rfl, h2⟩
     · exact .inl h2
     · exact .inr ⟨rfl, yAt h1 h2⟩
theorem yA9 (a b : UInt8) : a = b ∨ a < b ∨ b < a := by
 rcases Nat.lt_trichotomy a.toNat b.toNat with h | h | h
 · exact .inr (.inl (UInt8.lt_iff_toNat_lt.2 h))
 · exact .inl (UInt8.toNat_inj.1 h)
 · exact .inr (.inr (UInt8.lt_iff_toNat_lt.2 h))
theorem zNN : ∀ a b : List UInt8, a = b ∨ Op.bytesLess a b = true ∨ Op.bytesLess b a = true
 | [], [] => .inl rfl
 | [], _ :: _ => .inr (.inl (by simp [Op.bytesLess]))
 | _ :: _, [] => .inr (.inr (by simp [Op.bytesLess]))
 | a :: x, b :: y => by
   rw [zUh, zUh]
   rcases yA9 a b with rfl | h | h
   · rcases zNN x y with rfl | h | h
     · exact .inl rfl
     · exact .inr (.inl (.inr ⟨rfl, h⟩))
     · exact .inr (.inr (.inr ⟨rfl, h⟩))
   · exact .inr (.inl (.inl h))
   · exact .inr (.inr (.inl h))
theorem yBc {a b : List UInt8} : zBj a b < 0 ↔ Op.bytesLess a b = true := by
 unfold zBj
 split
 · simp_all
 · split <;> simp_all
theorem textC_gt {a b : List UInt8} : 0 < zBj a b ↔ Op.bytesLess b a = true := by
 unfold zBj
 rcases zNN a b with rfl | h | h
 · simp [zCk]
 · have : Op.bytesLess b a = false := by
     cases h2 : Op.bytesLess b a with
     | false => rfl
     | true => have := yAt h h2; rw [zCk] at this; cases this
   simp [h, this]
 · have h2 : Op.bytesLess a b = false := by
     cases h2 : Op.bytesLess a b with
     | false => rfl
     | true => have := yAt h h2; rw [zCk] at this; cases this
   have h3 : ¬ a = b := fun e => by subst e; rw [zCk] at h; cases h
   simp [h, h2, h3]
theorem cmp_text : Cmp zBj := by
 refine ⟨fun a b => by rw [yBc, textC_gt], fun {x y z} h1 h2 => ?_⟩
 apply Classical.byContradiction
 intro h3
 have h3 := textC_gt.1 (show 0 < zBj x z by omega)
 have h4 : ¬ Op.bytesLess y x = true := fun e => by have := textC_gt.2 e; omega
 have h5 : ¬ Op.bytesLess z y = true := fun e => by have := textC_gt.2 e; omega
 rcases zNN x y with rfl | h6 | h6
 · exact h5 h3
 · exact h5 (yAt h3 h6)
 · exact h4 h6
def lexC : List (List UInt8) → List (List UInt8) → Int
 | [], [] => 0
 | [], _ :: _ => -1
 | _ :: _, [] => 1
 | a :: x, b :: y => if ¬ zBj a b = 0 then zBj a b else lexC x y
theorem zUZ : ∀ x y : List (List UInt8), lexC x y < 0 ↔ 0 < lexC y x
 | [], [] => by simp [lexC]
 | [], _ :: _ => by simp [lexC]
 | _ :: _, [] => by simp [lexC]
 | a :: x, b :: y => by
   simp only [lexC]
   have h := zUZ x y
   by_cases hz : zBj a b = 0
   · have hz' : zBj b a = 0 := cmp_text.zero.1 hz
     simp only [hz, hz', not_true_eq_false, if_false]; exact h
   · have hz' : ¬ zBj b a = 0 := fun e => hz (cmp_text.zero.2 e)
     simp only [hz, hz', not_false_eq_true, if_true]; exact cmp_text.sym a b
theorem zYS : ∀ {x y z : List (List UInt8)}, lexC x y ≤ 0 → lexC y z ≤ 0 → lexC x z ≤ 0
 | [], [], _, _, h => h
 | [], _ :: _, [], _, h => by simp [lexC] at h
 | [], _ :: _, _ :: _, _, _ => by simp [lexC]
 | _ :: _, [], _, h, _ => by simp [lexC] at h
 | _ :: _, _ :: _, [], _, h => by simp [lexC] at h
 | a :: x, b :: y, c :: z, h1, h2 => by
   have h := (Cmp.lex (α := List UInt8 × List (List UInt8)) (c := fun p q => zBj p.1 q.1) (d := fun p q => lexC p.2 q.2) (cmp_text.on _))
   simp only [lexC] at *
   have k1 : zBj a b ≤ 0 := by by_cases hz : zBj a b = 0 <;> simp only [hz, not_true_eq_false, not_false_eq_true, if_false, if_true] at h1 <;> omega
   have k2 : zBj b c ≤ 0 := by by_cases hz : zBj b c = 0 <;> simp only [hz, not_true_eq_false, not_false_eq_true, if_false, if_true] at h2 <;> omega
   have k3 := cmp_text.tr k1 k2
   by_cases hz : zBj a c = 0
   · have z1 : zBj c a = 0 := cmp_text.zero.1 hz
     have a1 : zBj b a ≤ 0 := cmp_text.tr k2 (by omega)
     have a2 : zBj c b ≤ 0 := cmp_text.tr (by omega) k1
     have s1 := cmp_text.sym a b; have s2 := cmp_text.sym b a; have s3 := cmp_text.sym b c; have s4 := cmp_text.sym c b
     have e1 : zBj a b = 0 := by omega
     have e2 : zBj b c = 0 := by omega
     simp only [e1, not_true_eq_false, if_false] at h1
     simp only [e2, not_true_eq_false, if_false] at h2
     simp only [hz, not_true_eq_false, if_false]
     exact zYS h1 h2
   · simp only [hz, not_false_eq_true, if_true]; exact k3
theorem cmp_lex : Cmp lexC := ⟨zUZ, zYS⟩

theorem zSs : ∀ x y : List (List UInt8), (if cpre x y < x.length ∧ cpre x y < y.length then zBj x[cpre x y]! y[cpre x y]! else if x.length < y.length then -1 else if y.length < x.length then 1 else 0) = lexC x y
 | [], [] => rfl
 | [], _ :: _ => by simp [lexC]
 | _ :: _, [] => by simp [lexC]
 | a :: x, b :: y => by
   have ih := zSs x y
   simp only [lexC]
   by_cases h : a = b
   · subst h
     have hc : cpre (a :: x) (a :: y) = cpre x y + 1 := by simp [cpre]
     rw [hc, zFo]
     simp only [not_true_eq_false, if_false, ← ih, List.length_cons]
     by_cases h1 : cpre x y < x.length ∧ cpre x y < y.length
     · rw [if_pos h1, if_pos ⟨by omega, by omega⟩]; simp
     · rw [if_neg h1, if_neg (fun e => h1 ⟨by omega, by omega⟩)]
       by_cases h2 : x.length < y.length
       · rw [if_pos h2, if_pos (by omega)]
       · rw [if_neg h2, if_neg (by omega)]
         by_cases h3 : y.length < x.length
         · rw [if_pos h3, if_pos (by omega)]
         · rw [if_neg h3, if_neg (by omega)]
   · have hc : cpre (a :: x) (b :: y) = 0 := by simp [cpre, h]
     rw [hc, if_pos ⟨by simp, by simp⟩, if_pos (fun e => h (zBA e))]; rfl
theorem zEy (a b : List UInt8) : cmpB a b = match labs a, labs b with | some l, some m => lexC l.reverse m.reverse | some _, none => -1 | none, some _ => 1 | none, none => zBj a b := by
 unfold cmpB
 cases ha : labs a with
 | none => cases hb : labs b <;> rfl
 | some l =>
   cases hb : labs b with
   | none => rfl
   | some m =>
     simp only [Option.isSome_some, if_true, Option.getD_some]
     rw [← zSs l.reverse m.reverse]
     simp only [zBS, List.length_reverse]
     first | rfl | congr | (split <;> simp_all)
theorem cmp_name : Cmp cmpB := by
 refine ⟨fun a b => ?_, fun {x y z} h1 h2 => ?_⟩
 · rw [zEy, zEy]
   cases labs a <;> cases labs b
   · exact cmp_text.sym a b
   · show ((1 : Int) < 0 ↔ (0 : Int) < -1); decide
   · show ((-1 : Int) < 0 ↔ (0 : Int) < 1); decide
   · exact cmp_lex.sym _ _
 · rw [zEy] at *
   cases hx : labs x <;> cases hy : labs y <;> cases hz : labs z <;> simp only [hx, hy, hz] at h1 h2 ⊢ <;> first | omega | exact cmp_text.tr h1 h2 | exact cmp_lex.tr h1 h2
theorem zVC (t : Int) : Cmp (cmpD t) := by
 refine ⟨fun a b => ?_, fun {x y z} h1 h2 => ?_⟩
 · unfold cmpD
   by_cases ha : (zAx t a).2 = 0 <;> by_cases hb : (zAx t b).2 = 0 <;> simp only [ha, hb, if_true, if_false] <;> first | exact cmp_text.sym _ _ | decide | skip
 · unfold cmpD at *
   by_cases hx : (zAx t x).2 = 0 <;> by_cases hy : (zAx t y).2 = 0 <;> by_cases hz : (zAx t z).2 = 0 <;> simp only [hx, hy, hz, if_true, if_false] at h1 h2 ⊢ <;> first | omega | exact cmp_text.tr h1 h2
theorem cmp_first : Cmp zAy := by
 have hd : Cmp (fun a b : Rec => if ¬ numC a.typ b.typ = 0 then numC a.typ b.typ else cmpD a.typ a.dat b.dat) := by
   refine Cmp.lex (cmp_num.on Rec.typ) (fun a b h => ?_) (fun {x y z} h1 h2 k1 k2 => ?_)
   · have e := zDc h; rw [e]; exact (zVC b.typ).sym _ _
   · have e := zDc h1; have e2 := zDc h2
     rw [e] at k1 ⊢
     exact (zVC y.typ).tr k1 k2
 exact Cmp.lex (cmp_name.on Rec.name) (fun a b _ => hd.sym a b) (fun _ _ h1 h2 => hd.tr h1 h2)
theorem cmp_rec : Cmp cmpR := Cmp.lex cmp_first (fun a b _ => (cmp_num.on Rec.ttl).sym a b) (fun _ _ h1 h2 => (cmp_num.on Rec.ttl).tr h1 h2)
theorem wkR : Wk ltR := cmp_rec.wk

def cptR (p : Rec) : List Rec → List Rec
 | [] => []
 | x :: r => if zAy x p = 0 then cptR x r else x :: cptR x r
def zB3 : List Rec → List Rec
 | [] => []
 | x :: r => x :: cptR x r
def lt1 (a b : Rec) : Bool := decide (zAy a b < 0)
theorem wk1 : Wk lt1 := cmp_first.wk
def eqz (z x : Rec) : Bool := decide (zAy x z = 0)
def cz (z : Rec) (l : List Rec) : List Rec := l.filter (eqz z)
theorem yEc (z : Rec) (l : List Rec) : cls lt1 z l = cz z l := by
 unfold cls cz
 congr 1; funext x
 have h1 := cmp_first.sym x z; have h2 := cmp_first.sym z x
 unfold lt1 eqz
 rw [Bool.eq_iff_iff]
 simp only [Bool.and_eq_true, Bool.not_eq_true', decide_eq_false_iff_not, decide_eq_true_eq]
 omega
theorem zB2 {x y z : Rec} (h1 : zAy x y = 0) (h2 : zAy y z = 0) : zAy x z = 0 := by
 have s1 := cmp_first.sym x z; have s2 := cmp_first.sym z x
 have a1 := cmp_first.zero.1 h1; have a2 := cmp_first.zero.1 h2
 have t1 := cmp_first.tr (x := x) (y := y) (z := z) (by omega) (by omega)
 have t2 := cmp_first.tr (x := z) (y := y) (z := x) (by omega) (by omega)
 omega
theorem zFv {x y z : Rec} (h1 : zAy x y < 0) (h2 : zAy y z = 0) : zAy x z < 0 := by
 have := wk1.lt_le (a := x) (b := y) (c := z) (decide_eq_true h1) (decide_eq_false (by have := cmp_first.zero.1 h2; omega))
 exact of_decide_eq_true this
theorem zK9 {x y z : Rec} (h1 : zAy x y = 0) (h2 : zAy y z < 0) : zAy x z < 0 := by
 have := wk1.le_lt (a := x) (b := y) (c := z) (decide_eq_false (by have := cmp_first.zero.1 h1; omega)) (decide_eq_true h2)
 exact of_decide_eq_true this
theorem zGn {x y z : Rec} (h1 : zAy x y < 0) (h2 : zAy y z < 0) : zAy x z < 0 := of_decide_eq_true (wk1.tr (a := x) (b := y) (c := z) (decide_eq_true h1) (decide_eq_true h2))
def Str (l : List Rec) : Prop := l.Pairwise fun a b => zAy a b < 0
theorem Str.srt {l : List Rec} (h : Str l) : Srt lt1 l := h.imp fun {a b} h => decide_eq_false (by have := cmp_first.sym a b; omega)
theorem zEd {l r : List Rec} (hl : Str l) (hr : Str r) (h : ∀ z, cz z l = cz z r) : l = r := zKg wk1 l r hl.srt hr.srt fun z => by rw [yEc, yEc]; exact h z
theorem zUa {z : Rec} {l : List Rec} (h : ∀ y ∈ l, ¬ zAy y z = 0) : cz z l = [] := List.filter_eq_nil_iff.2 fun y hy => by simp [eqz, h y hy]
theorem zDN (z x : Rec) (l : List Rec) : cz z (x :: l) = if zAy x z = 0 then x :: cz z l else cz z l := by
 unfold cz; rw [List.filter_cons]; simp only [eqz, decide_eq_true_eq]
def bst (acc : List Rec) (x : Rec) : List Rec := match acc with
 | [] => [x]
 | y :: _ => if x.ttl < y.ttl then [x] else [y]
theorem zVi (x : Rec) : insR [] x = [x] := by simp [insR, posR]
theorem zSd (y : Rec) (r : List Rec) (x : Rec) : insR (y :: r) x = if zAy y x < 0 then y :: insR r x else if zAy y x = 0 then (if x.ttl < y.ttl then x :: r else y :: r) else x :: y :: r := by
 unfold insR
 by_cases h : zAy y x < 0
 · have hp : posR (y :: r) x = posR r x + 1 := by simp [posR, h]
   rw [hp, if_pos h]
   have e : ((y :: r)[posR r x + 1]!) = r[posR r x]! := by simp
   simp only [e, List.length_cons, List.set_cons_succ, List.take_succ_cons, List.drop_succ_cons]
   by_cases hc : (posR r x : Int) < r.length ∧ zAy r[posR r x]! x = 0
   · rw [if_pos hc, if_pos ⟨by have := hc.1; omega, hc.2⟩]
     split <;> rfl
   · rw [if_neg hc, if_neg (fun e => hc ⟨by have := e.1; omega, e.2⟩)]; rfl
 · have hp : posR (y :: r) x = 0 := by simp [posR, h]
   rw [hp, if_neg h]
   have e : ((y :: r)[0]!) = y := rfl
   rw [e]
   by_cases h0 : zAy y x = 0
   · rw [if_pos h0, if_pos ⟨by simp only [List.length_cons]; omega, h0⟩]; rfl
   · rw [if_neg h0, if_neg (fun e => h0 e.2)]; rfl
theorem str_cons {y : Rec} {r : List Rec} : Str (y :: r) ↔ (∀ a ∈ r, zAy y a < 0) ∧ Str r := List.pairwise_cons
theorem zVh {x : Rec} : ∀ {out : List Rec}, Str out → Str (insR out x)
 | [], _ => by rw [zVi]; exact List.pairwise_singleton _ _
 | y :: r, h => by
   obtain ⟨h1, h2⟩ := str_cons.1 h
   rw [zSd]
   by_cases hl : zAy y x < 0
   · rw [if_pos hl]
     refine str_cons.2 ⟨fun a ha => ?_, zVh h2⟩
     rcases zVj ha with rfl | ha
     · exact hl
     · exact h1 a ha
   · rw [if_neg hl]
     by_cases h0 : zAy y x = 0
     · rw [if_pos h0]
       split
       · exact str_cons.2 ⟨fun a ha => zK9 (cmp_first.zero.1 h0) (h1 a ha), h2⟩
       · exact h
     · rw [if_neg h0]
       have hx : zAy x y < 0 := by have := cmp_first.sym x y; omega
       refine str_cons.2 ⟨fun a ha => ?_, h⟩
       rcases List.mem_cons.1 ha with rfl | ha
       · exact hx
       · exact zGn hx (h1 a ha)
theorem zZl {x z : Rec} : ∀ {out : List Rec}, Str out → cz z (insR out x) = if zAy x z = 0 then bst (cz z out) x else cz z out
 | [], _ => by rw [zVi, zDN]; rfl
 | y :: r, h => by
   obtain ⟨h1, h2⟩ := str_cons.1 h
   rw [zSd]
   by_cases hl : zAy y x < 0
   · rw [if_pos hl, zDN, zDN, zZl h2]
     by_cases hx : zAy x z = 0
     · have hy : ¬ zAy y z = 0 := by have := zFv hl hx; omega
       simp only [hx, hy, if_true, if_false]
     · simp only [hx, if_false]
   · rw [if_neg hl]
     by_cases h0 : zAy y x = 0
     · rw [if_pos h0]
       by_cases hx : zAy x z = 0
       · have hy : zAy y z = 0 := zB2 h0 hx
         have hr : cz z r = [] := zUa fun a ha e => by have := zFv (h1 a ha) e; omega
         rw [zDN z y, hr, if_pos hy, if_pos hx]
         simp only [bst]
         split
         · rw [zDN, if_pos hx, hr]
         · rw [zDN, if_pos hy, hr]
       · have hy : ¬ zAy y z = 0 := fun e => hx (zB2 (cmp_first.zero.1 h0) e)
         rw [if_neg hx]
         split
         · rw [zDN, zDN, if_neg hx, if_neg hy]
         · rfl
     · rw [if_neg h0]
       have hxy : zAy x y < 0 := by have := cmp_first.sym x y; omega
       rw [zDN]
       by_cases hx : zAy x z = 0
       · have hn : cz z (y :: r) = [] := zUa fun a ha e => by
           have ha' : zAy x a < 0 := by
             rcases List.mem_cons.1 ha with rfl | ha
             · exact hxy
             · exact zGn hxy (h1 a ha)
           have := zFv ha' e; omega
         rw [if_pos hx, if_pos hx, hn]; rfl
       · rw [if_neg hx, if_neg hx]
theorem zOz : ∀ (l out : List Rec), Str out → Str (l.foldl insR out) ∧ ∀ z, cz z (l.foldl insR out) = (cz z l).foldl bst (cz z out)
 | [], out, h => ⟨h, fun z => rfl⟩
 | x :: r, out, h => by
   obtain ⟨h1, h2⟩ := zOz r _ (zVh (x := x) h)
   refine ⟨h1, fun z => ?_⟩
   rw [List.foldl_cons, h2 z, zZl h, zDN]
   split <;> rfl
theorem zBt (l : List Rec) : Str (zA4 l) := (zOz l [] List.Pairwise.nil).1
theorem zFC (l : List Rec) (z : Rec) : cz z (zA4 l) = (cz z l).foldl bst [] := (zOz l [] List.Pairwise.nil).2 z
theorem zOs {a b : Rec} (h : ltR b a = false) : zAy a b ≤ 0 := by
 have h1 := of_decide_eq_false h
 have s1 := cmp_first.sym b a; have s2 := cmp_first.sym a b
 unfold cmpR at h1
 by_cases hz : zAy b a = 0
 · omega
 · rw [if_pos hz] at h1; omega
theorem zVB {p : Rec} : ∀ {l : List Rec}, Srt ltR (p :: l) → ∀ y ∈ cptR p l, zAy p y < 0
 | [], _, y, h => by cases h
 | x :: r, hs, y, h => by
   obtain ⟨h1, h2⟩ := List.pairwise_cons.1 hs
   have hx := zOs (h1 x (by simp))
   unfold cptR at h
   split at h
   · rename_i h0
     exact zK9 (cmp_first.zero.1 h0) (zVB h2 y h)
   · rename_i h0
     have hp : zAy p x < 0 := by have := cmp_first.zero (a := x) (b := p); omega
     rcases List.mem_cons.1 h with rfl | h
     · exact hp
     · exact zGn hp (zVB h2 y h)
theorem zUb {p : Rec} : ∀ {l : List Rec}, Srt ltR (p :: l) → Str (cptR p l)
 | [], _ => List.Pairwise.nil
 | x :: r, hs => by
   obtain ⟨h1, h2⟩ := List.pairwise_cons.1 hs
   unfold cptR
   split
   · exact zUb h2
   · exact str_cons.2 ⟨zVB h2, zUb h2⟩
theorem zZ3 {z p : Rec} : ∀ {l : List Rec}, Srt ltR (p :: l) → cz z (cptR p l) = if zAy p z = 0 then [] else (cz z l).head?.toList
 | [], _ => by simp [cptR, cz]
 | x :: r, hs => by
   obtain ⟨h1, h2⟩ := List.pairwise_cons.1 hs
   have hx := zOs (h1 x (by simp))
   unfold cptR
   split
   · rename_i h0
     rw [zZ3 h2]
     by_cases hz : zAy x z = 0
     · rw [if_pos hz, if_pos (zB2 (cmp_first.zero.1 h0) hz)]
     · rw [if_neg hz, if_neg (fun e => hz (zB2 h0 e)), zDN, if_neg hz]
   · rename_i h0
     have hp : zAy p x < 0 := by have := cmp_first.zero (a := x) (b := p); omega
     rw [zDN, zZ3 h2]
     by_cases hz : zAy x z = 0
     · have hpz : ¬ zAy p z = 0 := by have := zFv hp hz; omega
       rw [if_pos hz, if_pos hz, if_neg hpz, zDN, if_pos hz]; rfl
     · rw [if_neg hz, if_neg hz]
       by_cases hpz : zAy p z = 0
       · rw [if_pos hpz, zUa (l := r)]
         · rfl
         · intro y hy e
           have hy2 := zOs ((List.pairwise_cons.1 h2).1 y hy)
           have h3 : zAy z x < 0 := zK9 (cmp_first.zero.1 hpz) hp
           have h4 := cmp_first.tr (x := x) (y := y) (z := z) hy2 (by omega)
           have s1 := cmp_first.sym z x; omega
       · rw [if_neg hpz, zDN, if_neg hz]
theorem zUd {l : List Rec} (h : Srt ltR l) : Str (zB3 l) := by
 cases l with
 | nil => exact List.Pairwise.nil
 | cons x r => exact str_cons.2 ⟨zVB h, zUb h⟩
theorem zW4 {l : List Rec} (h : Srt ltR l) (z : Rec) : cz z (zB3 l) = (cz z l).head?.toList := by
 cases l with
 | nil => rfl
 | cons x r =>
   show cz z (x :: cptR x r) = _
   rw [zDN, zDN, zZ3 h]
   by_cases hz : zAy x z = 0
   · rw [if_pos hz, if_pos hz, if_pos hz]; rfl
   · rw [if_neg hz, if_neg hz, if_neg hz]
theorem zYQ {x y z : Rec} (hx : ¬ zAy x z = 0) (hy : zAy y z = 0) {y' : Rec} (hy' : zAy y' z = 0) : ltR x y = ltR x y' := by
 have hz := cmp_first.zero (a := y) (b := z); have hz' := cmp_first.zero (a := y') (b := z)
 have e1 : zAy y y' = 0 := zB2 hy (hz'.1 hy')
 have n1 : ¬ zAy x y = 0 := fun e => hx (zB2 e hy)
 have n2 : ¬ zAy x y' = 0 := fun e => hx (zB2 e hy')
 unfold ltR cmpR
 rw [if_pos n1, if_pos n2]
 by_cases h : zAy x y < 0
 · rw [decide_eq_true h, decide_eq_true (zFv h e1)]
 · rw [decide_eq_false h, decide_eq_false (fun e => h (zFv e (cmp_first.zero.1 e1)))]
theorem yB3 {x y z : Rec} (hx : zAy x z = 0) (hy : zAy y z = 0) : ltR x y = decide (x.ttl < y.ttl) := by
 have e1 : zAy x y = 0 := zB2 hx (cmp_first.zero.1 hy)
 unfold ltR cmpR
 rw [if_neg (fun h => h e1)]
 unfold numC
 by_cases h : x.ttl < y.ttl
 · rw [if_pos h]; simp [h]
 · rw [if_neg h]; split <;> simp [h]
theorem mem_cz {z y : Rec} {l : List Rec} : y ∈ cz z l ↔ y ∈ l ∧ zAy y z = 0 := by simp [cz, eqz]
theorem yFF {out : List Rec} (h : Srt ltR out) (x z : Rec) : (cz z (insS ltR out x)).head?.toList = if zAy x z = 0 then bst ((cz z out).head?.toList) x else (cz z out).head?.toList := by
 have hf : ∀ p : Rec → Bool, cz z (out.filter p) = (cz z out).filter p := fun p => by simp only [cz, List.filter_filter]; congr 1; funext y; exact Bool.and_comm _ _
 have hc : cz z (insS ltR out x) = (cz z out).filter (fun y => !ltR x y) ++ (if zAy x z = 0 then [x] else []) ++ (cz z out).filter (fun y => ltR x y) := by
   have : cz z (insS ltR out x) = cz z (out.filter (fun y => !ltR x y)) ++ cz z (x :: out.filter (fun y => ltR x y)) := by unfold insS cz; rw [List.filter_append]
   rw [this, zDN, hf, hf]
   split <;> simp
 have hso : Srt ltR (cz z out) := h.sublist List.filter_sublist
 have hm : ∀ y ∈ cz z out, zAy y z = 0 := fun y hy => (mem_cz.1 hy).2
 rw [hc]
 generalize cz z out = o at hso hm
 by_cases hx : zAy x z = 0
 · rw [if_pos hx, if_pos hx]
   cases o with
   | nil => rfl
   | cons y o' =>
     obtain ⟨h1, h2⟩ := List.pairwise_cons.1 hso
     have hy := yB3 hx (hm y (by simp))
     by_cases ht : x.ttl < y.ttl
     · have hxy : ltR x y = true := by rw [hy]; exact decide_eq_true ht
       have hall : ∀ w ∈ y :: o', ltR x w = true := by
         intro w hw
         rcases List.mem_cons.1 hw with rfl | hw
         · exact hxy
         · exact wkR.lt_le hxy (h1 w hw)
       rw [List.filter_eq_nil_iff.2 (fun w hw => by rw [hall w hw]; decide)]
       simp [bst, ht]
     · have hxy : ltR x y = false := by rw [hy]; exact decide_eq_false ht
       rw [List.filter_cons]
       simp [hxy, bst, ht]
 · rw [if_neg hx, if_neg hx]
   cases o with
   | nil => rfl
   | cons y o' =>
     have hall : ∀ w ∈ y :: o', ltR x w = ltR x y := fun w hw => zYQ hx (hm w hw) (hm y (by simp))
     cases hxy : ltR x y with
     | true => rw [List.filter_eq_nil_iff.2 (fun w hw => by rw [hall w hw, hxy]; decide), List.filter_eq_self.2 (fun w hw => by rw [hall w hw, hxy])]; rfl
     | false => rw [List.filter_cons]; simp [hxy]
theorem zVo : ∀ (l out : List Rec), Srt ltR out → ∀ z, (cz z (l.foldl (insS ltR) out)).head?.toList = (cz z l).foldl bst ((cz z out).head?.toList)
 | [], out, _, z => rfl
 | x :: r, out, h, z => by
   rw [List.foldl_cons, zVo r _ (zVg wkR x h) z, yFF h, zDN]
   split <;> rfl
theorem zUE (l : List Rec) : zB3 (stS ltR l) = zA4 l := by
 have hs := zJl wkR l
 refine zEd (zUd hs) (zBt l) fun z => ?_
 rw [zW4 hs, zFC]
 exact zVo l [] List.Pairwise.nil z
structure Key where
 name : List UInt8
 typ : Int
 deriving Inhabited, DecidableEq
def keyL (a : Key) : List D := [.st a.name, .it .i64 a.typ]
def keyE (a : Key) : D := .agg (keyL a)
theorem zR9 (a : Key) : D.cells (keyE a) = keyL a := rfl
theorem zOv (a : Key) : cellsOf (keyE a) = some (keyL a) := rfl
theorem zZa (a : Key) : (keyL a).length = 2 := rfl
theorem zU1 (a : Key) : List.take 2 (keyL a) = keyL a := rfl
theorem zZd (a : Key) : D.agg (keyL a) = keyE a := rfl
theorem zU2 (a : Key) : refs (keyE a) = [] := rfl
theorem zZb (a : Key) : immD (keyE a) = true := rfl
theorem zY9 {f : Nat → Option Nat} (a : Key) : ren f (keyE a) = keyE a := rfl
theorem zZc (a : Key) : zDL (keyE a) = true := rfl
theorem yDZ {name : List UInt8} {typ : Int} : D.agg [.st name, .it .i64 typ] = keyE ⟨name, typ⟩ := rfl
theorem zR8 (a : Key) : List.drop 1 (keyL a) = [.it .i64 a.typ] := rfl
theorem zR7 (a : Key) : List.drop 2 (keyL a) = [] := rfl
theorem yD0 (a : Key) : (keyL a).head? = some (.st a.name) := rfl
theorem zR6 (a : Key) : zAv (keyL a) = [] := rfl
theorem zU3 (a : Key) : immL (keyL a) = true := rfl
theorem yD1 (a : Key) : zGW (keyE a) = true := rfl
theorem key_inj : ∀ a b : Key, keyE a = keyE b → a = b := by
 intro a b h
 cases a; cases b
 simp only [keyE, keyL, D.agg.injEq, List.cons.injEq, D.st.injEq, D.it.injEq, D.bo.injEq, true_and, and_true] at h
 simp only [Key.mk.injEq]; exact h
theorem zQr (a b : Key) : (keyE a = keyE b) = (a = b) := propext ⟨key_inj a b, fun h => h ▸ rfl⟩
theorem zSa (a b : Key) : again (keyE a) (keyL b) = keyE b := rfl
theorem sz83 : szT Tryz.prog 83 = some 2 := by kernel_rfl
theorem yC9 : aggT Tryz.prog 83 = some true := by kernel_rfl
theorem zXh : zHX Tryz.prog 83 = some (.agg [.st [], .it .i64 0]) := by kernel_rfl
theorem zNZ : szT Tryz.prog 3 = some 1 := by kernel_rfl
theorem zMe : aggT Tryz.prog 3 = some false := by kernel_rfl
theorem zNY : szT Tryz.prog 9 = some 1 := by kernel_rfl
theorem zMd : aggT Tryz.prog 9 = some false := by kernel_rfl
theorem yD7 : ∀ a : Key, zAX Tryz.prog 83 0 (keyE a) = some (.st a.name) := fun a => by
 show zAX _ _ _ (.agg (keyL a)) = _
 simp only [zAX, zA5, Tryz.underlying82, Tryz.underlying83, sz83, yC9, zNZ, zMe, zNY, zMd, zAC, Option.bind_some, List.getElem?_toArray, List.getElem?_cons_succ, List.getElem?_cons_zero, if_true, if_false, Bool.false_eq_true]
 rfl
theorem yD9 : ∀ (H : Hp) (x : D), zA7 Tryz.prog H 83 x 0 = faD H x 0 := zEP (n := (szT Tryz.prog ((zA5 Tryz.prog 83 0).map (·.type)|>.getD 0)).getD 0) (fl := (zA5 Tryz.prog 83 0).getD default) (by kernel_rfl) (by kernel_rfl) (by decide +kernel) (by kernel_rfl)
theorem yD6 : ∀ a : Key, zAX Tryz.prog 83 1 (keyE a) = some (.it .i64 a.typ) := fun a => by
 show zAX _ _ _ (.agg (keyL a)) = _
 simp only [zAX, zA5, Tryz.underlying82, Tryz.underlying83, sz83, yC9, zNZ, zMe, zNY, zMd, zAC, Option.bind_some, List.getElem?_toArray, List.getElem?_cons_succ, List.getElem?_cons_zero, if_true, if_false, Bool.false_eq_true]
 rfl
theorem yD8 : ∀ (H : Hp) (x : D), zA7 Tryz.prog H 83 x 1 = faD H x 1 := zEP (n := (szT Tryz.prog ((zA5 Tryz.prog 83 1).map (·.type)|>.getD 0)).getD 0) (fl := (zA5 Tryz.prog 83 1).getD default) (by kernel_rfl) (by kernel_rfl) (by decide +kernel) (by kernel_rfl)
theorem bd83 : ∀ (parts : List (Nat × D)), zHJ Tryz.prog 83 parts = (zJ5 (fun i => ([(0, 1), (1, 1)] : List (Nat × Nat))[i]?) [.st [], .it .i64 0] parts).map .agg := zUl zXh Tryz.underlying83 (by kernel_rfl)
theorem el81 : zDp Tryz.prog 81 = some 83 := by kernel_rfl
theorem ap81 : appT Tryz.prog 81 2 24 = true := by kernel_rfl
theorem ze81 : zHL Tryz.prog 83 2 = some (.agg [.st [], .it .i64 0]) := by kernel_rfl
theorem yJP : ∀ (H : Hp) (nid : Nat) (s x : D), zEl Tryz.prog 81 H nid s x = appK 2 24 H nid s x := fun _ _ _ _ => zOO ap81
theorem yJS : ∀ (H : Hp) (nid : Nat) (s x : D), zD9 Tryz.prog 81 H nid s x = zQ8 2 24 H nid s x := fun _ _ _ _ => zLe ap81
theorem yDT : ∀ {α : Type} (H : Hp) (sz : Nat) (E : α → D) (xs : List α), lenD Tryz.prog H 81 (vecE sz E xs) = some (xs.length : Int) := fun _ _ _ _ => zIx Tryz.underlying81
theorem yDU : ∀ (H : Hp) (id off len : Nat), lenD Tryz.prog H 81 (.own id off len) = match H id with | .row _ _ _ => some (len : Int) | _ => none := fun _ _ _ _ => zK5 Tryz.underlying81
theorem yDE : ∀ {α : Type} (sz : Nat) (E : α → D) (xs : List α), zDu Tryz.prog 81 (vecE sz E xs) = true := fun _ _ _ => zIf Tryz.underlying81
theorem yIk : ∀ (H : Hp) (id off len : Nat) (k : IntKind) (n : Int), zA6 Tryz.prog H 81 (.own id off len) (.it k n) = match H id with | .row sz _ _ => if szT Tryz.prog 83 = some sz ∧ 0 ≤ n ∧ n < len then some (.rowp id (off + n.toNat) 0) else none | _ => none := fun _ _ _ _ _ _ => zNq Tryz.underlying81
theorem yHJ : ∀ (H : Hp) (id len k : Nat) (kd : IntKind), zBm Tryz.prog H 81 (.own id 0 len) none (some (.it kd (k : Int))) none = match H id with | .row sz _ _ => if szT Tryz.prog 83 = some sz ∧ k ≤ len then some (.own id 0 k) else none | _ => none := fun _ _ _ _ _ => zN7 Tryz.underlying81
theorem yHM : ∀ (H : Hp) (id off len k : Nat) (kd : IntKind), zBm Tryz.prog H 81 (.own id off len) (some (.it kd (k : Int))) none none = match H id with | .row sz _ _ => if szT Tryz.prog 83 = some sz ∧ k ≤ len then some (.own id (off + k) (len - k)) else none | _ => none := fun _ _ _ _ _ _ => zIg Tryz.underlying81
theorem yHO : ∀ {α : Type} (H : Hp) (E : α → D) (xs : List α) (k : IntKind) (i : Nat) (_ : i ≤ xs.length), zBm Tryz.prog H 81 (vecE 2 E xs) (some (.it k (i : Int))) none none = some (vecE 2 E (xs.drop i)) := fun _ _ _ _ _ h => zIh Tryz.underlying81 sz83 h
theorem yH3 : ∀ (H : Hp) (nid : Nat) (c : Int), zG9 Tryz.prog 81 H nid (.it .i64 0) (.it .i64 c) = if 0 ≤ c ∧ ((24 : Nat) : Int) * c ≤ 281474976710656 then some (.own nid 0 0, upd H nid (.row 2 true []), nid + 1) else none := fun _ _ _ => zTP el81 ze81 (by kernel_rfl) (by decide)
theorem yDF : ∀ (id off len : Nat), zDu Tryz.prog 81 (.own id off len) = true := fun _ _ _ => zFp Tryz.underlying81
theorem yIh : ∀ {α : Type} [Inhabited α] (H : Hp) (E : α → D) (xs : List α) (k : IntKind) (i : Nat) (_ : (i : Int) < xs.length), zA6 Tryz.prog H 81 (vecE 2 E xs) (.it k (i : Int)) = some (.elt (E xs[i]!).cells) := fun _ _ _ _ _ h => zJ0 Tryz.underlying81 sz83 h

theorem Cmp.swo {α : Type} {c : α → α → Int} (h : Cmp c) : Sort.SWO (Go.Proofs.ltOf c) := by
 have e : ∀ x y, Go.Proofs.ltOf c x y = decide (c x y < 0) := fun x y => rfl
 have hw := h.wk
 exact ⟨fun x => hw.irr x, fun x y z h1 h2 => hw.tr h1 h2, fun x y z h1 h2 => hw.ntr h1 h2⟩
def keyOf (r : Rec) : Key := ⟨r.name, r.typ⟩
def keyC (a b : Key) : Int := if Op.bytesLess a.name b.name = true then -1 else if a.name = b.name ∧ a.typ < b.typ then -1 else if a = b then 0 else 1
theorem yFz (a b : Key) : keyC a b = if ¬ zBj a.name b.name = 0 then zBj a.name b.name else numC a.typ b.typ := by
 obtain ⟨n, t⟩ := a
 obtain ⟨m, u⟩ := b
 unfold keyC zBj numC
 rcases zNN n m with rfl | h | h
 · simp only [zCk, Bool.false_eq_true, if_false, true_and, Key.mk.injEq, if_true, not_true_eq_false]
   by_cases h1 : t < u
   · simp [h1]
   · by_cases h2 : t = u
     · subst h2; simp
     · have h3 : u < t := by omega
       simp [h1, h2, h3]
 · have hne : ¬ n = m := fun e => by subst e; rw [zCk] at h; cases h
   simp [h, hne]
 · have hne : ¬ n = m := fun e => by subst e; rw [zCk] at h; cases h
   have h2 : Op.bytesLess n m = false := by
     cases h3 : Op.bytesLess n m with
     | false => rfl
     | true => have := yAt h3 h; rw [zCk] at this; cases this
   simp [h2, hne]
theorem cmp_key : Cmp keyC := by
 have h : Cmp (fun a b : Key => if ¬ zBj a.name b.name = 0 then zBj a.name b.name else numC a.typ b.typ) := Cmp.lex (cmp_text.on Key.name) (fun a b _ => (cmp_num.on Key.typ).sym a b) (fun _ _ h1 h2 => (cmp_num.on Key.typ).tr h1 h2)
 have e : keyC = fun a b : Key => if ¬ zBj a.name b.name = 0 then zBj a.name b.name else numC a.typ b.typ := by funext a b; exact yFz a b
 rw [e]; exact h
theorem yCd {a b : Key} (h : keyC a b = 0) : a = b := by
 unfold keyC at h
 split at h
 · omega
 · split at h
   · omega
   · split at h
     · assumption
     · omega
noncomputable def zEO (l : List Rec) : List Key := pdqL keyC (l.map keyOf)
theorem zOk {α : Type} [Inhabited α] {c : α → α → Int} (h : Cmp c) (l : List α) : (pdqL c l).Perm l ∧ ∀ i j, i < j → j < (pdqL c l).length → ¬ c (pdqL c l)[j]! (pdqL c l)[i]! < 0 := by
 have hp := Sort.pdq_sorts (Go.Proofs.ltOf c) h.swo l.toArray 0 l.toArray.size (Lib.bitLen l.toArray.size) true true (Nat.zero_le _) (Nat.le_refl _) (Or.inl rfl)
 obtain ⟨⟨h1, h2, h3⟩, h4⟩ := hp
 generalize hd : Sort.pdq (Go.Proofs.ltOf c) l.toArray 0 l.toArray.size (Lib.bitLen l.toArray.size) true true = d at h1 h2 h3 h4
 have hpd : pdqL c l = d.toList := by unfold pdqL; rw [hd]
 rw [hpd]
 constructor
 · have e1 : d.extract 0 l.toArray.size = d := by rw [← h1]; simp
   rw [e1] at h3
   simpa using h3
 · intro i j hij hj
   have h5 := h4 i j (Nat.zero_le _) hij (by rw [← h1]; simpa using hj)
   have e : ∀ k, d[k]! = d.toList[k]! := fun k => by first | (exact (Array.getElem!_toList ..).symm) | (rw [Array.getElem!_toList]) | (rw [← Array.getElem!_toList]) | (cases d; simp [getElem!_def])
   rw [e, e] at h5
   exact of_decide_eq_false h5
theorem zQq (l : List Rec) : (zEO l).length = l.length := by
 rw [zEO, (zOk cmp_key _).1.length_eq, List.length_map]
def runK (K : List Key) : Nat → Int
 | 0 => 0
 | i + 1 => if 0 < i ∧ K[i - 1]! = K[i]! then runK K i + 1 else 1
def crwK (K : List Key) : Bool := (List.range K.length).any fun i => decide (64 < runK K (i + 1))
theorem zXZ (K : List Key) : ∀ i, 0 ≤ runK K i ∧ runK K i ≤ i
 | 0 => by simp [runK]
 | i + 1 => by
   have := zXZ K i
   unfold runK
   split <;> omega
theorem zQV {K : List Key} {i : Nat} (h : i < K.length) (x : Key) : (K.take (i + 1)).count x = (K.take i).count x + if K[i]! = x then 1 else 0 := by
 rw [takeN (l := K) (by omega), List.count_append, List.count_singleton]
 simp
theorem zMr {K : List Key} (hs : ∀ i j, i < j → j < K.length → ¬ keyC K[j]! K[i]! < 0) : ∀ i, i < K.length → runK K (i + 1) = ((K.take (i + 1)).count K[i]! : Int)
 | 0, h => by
   rw [zQV h]; simp [runK]
 | i + 1, h => by
   have ih := zMr hs i (by omega)
   rw [zQV h, runK]
   by_cases he : K[i]! = K[i + 1]!
   · rw [if_pos ⟨by omega, by simpa using he⟩, ih, he]; simp
   · rw [if_neg (fun e => he (by simpa using e.2))]
     have h0 : (K.take (i + 1)).count K[i + 1]! = 0 := by
       rw [List.count_eq_zero]
       intro hm
       obtain ⟨j, hj, e⟩ := List.mem_iff_getElem.1 hm
       rw [List.length_take] at hj
       rw [List.getElem_take] at e
       have ej : K[j]! = K[i + 1]! := by rw [getElem!_pos K j (by omega)]; exact e
       by_cases hji : j = i
       · subst hji; exact he ej
       · have h1 := hs j i (by omega) (by omega)
         have h2 := hs i (i + 1) (by omega) h
         rw [ej] at h1
         have h3 := cmp_key.sym K[i + 1]! K[i]!; have h4 := cmp_key.sym K[i]! K[i + 1]!
         exact he (yCd (by omega))
     rw [h0]; simp
theorem zW3 {K : List Key} {x : Key} (h : x ∈ K) : ∃ i, i < K.length ∧ K[i]! = x ∧ (K.take (i + 1)).count x = K.count x := by
 have : ∀ n, n ≤ K.length → 0 < (K.take n).count x → ∃ i, i < n ∧ K[i]! = x ∧ (K.take (i + 1)).count x = (K.take n).count x := by
   intro n
   induction n with
   | zero => intro _ h0; simp at h0
   | succ n ih =>
     intro hn h0
     by_cases he : K[n]! = x
     · exact ⟨n, by omega, he, rfl⟩
     · have e := zQV (K := K) (i := n) (by omega) x
       rw [if_neg he] at e
       obtain ⟨i, h1, h2, h3⟩ := ih (by omega) (by omega)
       exact ⟨i, by omega, h2, by omega⟩
 obtain ⟨i, h1, h2, h3⟩ := this K.length (Nat.le_refl _) (by rw [List.take_length]; exact List.count_pos_iff.2 h)
 rw [List.take_length] at h3
 exact ⟨i, h1, h2, h3⟩
theorem zPL (l : List Rec) (n : List UInt8) (t : Int) : (findR l n t).length = (l.map keyOf).count ⟨n, t⟩ := by
 unfold findR
 induction l with
 | nil => rfl
 | cons x r ih =>
   rw [List.filter_cons, List.map_cons, List.count_cons]
   have : (keyOf x == (⟨n, t⟩ : Key)) = (x.name == n && decide (x.typ = t)) := by
     rw [Bool.eq_iff_iff]; simp [keyOf]
   rw [this]
   split <;> simp_all
theorem zZ1 (l : List Rec) : crwK (zEO l) = crwB l := by
 obtain ⟨h1, h2⟩ : (zEO l).Perm (l.map keyOf) ∧ ∀ i j, i < j → j < (zEO l).length → ¬ keyC (zEO l)[j]! (zEO l)[i]! < 0 := zOk cmp_key (l.map keyOf)
 rw [Bool.eq_iff_iff]
 unfold crwK crwB
 rw [List.any_eq_true, List.any_eq_true]
 constructor
 · rintro ⟨i, hi, h⟩
   have hi := List.mem_range.1 hi
   have h := of_decide_eq_true h
   rw [zMr h2 i hi] at h
   have hm : (zEO l)[i]! ∈ l.map keyOf := h1.mem_iff.1 (zBO (by omega))
   obtain ⟨x, hx, e⟩ := List.mem_map.1 hm
   refine ⟨x, hx, decide_eq_true ?_⟩
   rw [zPL, show (⟨x.name, x.typ⟩ : Key) = keyOf x from rfl, e, ← h1.count_eq]
   have h3 : ((zEO l).take (i + 1)).count (zEO l)[i]! ≤ (zEO l).count (zEO l)[i]! := (List.take_sublist _ _).count_le _
   omega
 · rintro ⟨x, hx, h⟩
   have h := of_decide_eq_true h
   rw [zPL, show (⟨x.name, x.typ⟩ : Key) = keyOf x from rfl, ← h1.count_eq] at h
   have hm : keyOf x ∈ zEO l := h1.mem_iff.2 (List.mem_map.2 ⟨x, hx, rfl⟩)
   obtain ⟨i, hi, e1, e2⟩ := zW3 hm
   refine ⟨i, List.mem_range.2 hi, decide_eq_true ?_⟩
   rw [zMr h2 i hi, e1, e2]
   exact h

theorem yIq : Tryz.prog.stoodInHeld 83 = false := by kernel_rfl
theorem yKH : Tryz.prog.eqGuardType Tryz.prog.depth 83 = false := by kernel_rfl
theorem yKI (n : Nat) (a b : Key) : eqD Tryz.prog (n + 8) 83 (.agg (keyL a)) (.agg (keyL b)) = some (decide (a = b)) := by
 obtain ⟨p, q⟩ := a
 obtain ⟨p', q'⟩ := b
 simp only [zFw Tryz.underlying83 yIq, zQQ, zQP, zNJ, zQO, zNI, ne_eq, Tryz.underlying82, Tryz.underlying83, zNZ, zMe, zNY, zMd, Tryz.underlying9, Tryz.underlying3, Tryz.underlying83, zAC, keyL, Option.bind_some, Option.map_some, if_true, if_false, Bool.false_eq_true, List.drop_zero, List.drop_succ_cons, List.take_succ_cons, List.take_zero, List.getElem?_cons_succ, List.getElem?_cons_zero, List.length_cons, List.length_nil, Nat.reduceAdd, Nat.reduceLeDiff, String.reduceEq, not_false_eq_true, Nat.reduceEqDiff]
 rw [Option.some.injEq, Bool.eq_iff_iff]
 simp only [Bool.and_eq_true, beq_iff_eq, decide_eq_true_eq, Key.mk.injEq, and_true, and_assoc]
theorem yJj (a b : Key) : binD Tryz.prog .eql 83 (keyE a) (keyE b) = some (.bo (decide (a = b))) := zQ6 rfl rfl yKH (yKI 4 a b)
noncomputable def zPm := mkF (fun s : Key × Key => [keyE s.1, keyE s.2]) (fun s => True) (fun s => Res.flat (.it .i64 (keyC s.1 s.2)))
theorem zGq {a1 : Key} {b1 : Key} : zPm [keyE a1, keyE b1] = some (Res.flat (.it .i64 (keyC a1 b1))) := zAB (s := (a1, b1)) (fun s s' h => by simp only [cI, zQr] at h; simp only [h]) trivial
theorem zJD (cx : Cx) (hP : cx.P = Tryz.prog) (hbs : cx.bs = 0) (a1 b1 : Key)  : zAj cx Tryz.f86 [] false [keyE a1, keyE b1] = some (Res.flat (.it .i64 (keyC a1 b1))) := by
 refine zAg (rs := [.tmp 4]) rfl hbs rfl ?_
 repeat' first
   | (refine zAR (fun h => ?_) (fun h => ?_) <;> (try simp only [cN] at h))
   | (refine zAN ?_ ?_)
   | simp only [↓cD, cU, cQ, cP, cB, zAJ, unD, zAf, zAd, idx, reduceCtorEq, ↓reduceIte, ofV, ofC, zAq, Nat.reduceEqDiff, zAG, cG, implies_true, forall_const, immL, immD, Res.flat, ren, renL, Int.reduceEq, Int.reduceLT, Int.reduceLE, Int.reduceNe, deref, ldD, zAF, zAk, zAI, zAs, cC, ↓zAM, ↓zAQ, ↓zAL, ↓zAP, ↓zAK, ↓zAO, cV, cT, cF, cW, borT, borM, zAm, Res.via, zAu, zAb, refsB, Nat.reduceLT, Nat.reduceSub, Nat.reduceLeDiff, Nat.reduceMul, Nat.reduceAdd, Int.reduceToNat, appK, zAr, zAc, borL, zAl, zAn, zAE, cO, List.replicate, zAC, ofHp, ixOf, zR9, zOv, zZa, zU1, zZd, zU2, zZb, zY9, zZc, yDZ, zR8, zR7, yD0, zR6, zU3, yD1, zQr, zSa, sz83, yC9, Tryz.underlying82, Tryz.underlying83, zXh, zNZ, zMe, zNY, zMd, yD7, yD9, yD6, yD8, bd83, el81, ap81, ze81, yJP, yJS, yDT, yDU, yDE, yIk, yHJ, yHM, yHO, yH3, yDF, yIh, ↓yJj, hP, *]
 all_goals first
   | (simp [keyC, *]; done)
   | (simp_all [keyC]; done)
   | rfl
noncomputable def FSK := mkE (fun l : List Key => [.own 0 0 l.length, .fn (.func 86) [] []]) (fun l => .row 2 true (l.map fun x => .agg (keyL x))) (fun l => l.length < 4611686018427387904) (fun l => (.tup [], [.row 2 true ((pdqL keyC l).map fun x => .agg (keyL x))]))
theorem yCc {l r : List Key} (h : l.map keyE = r.map keyE) : l = r := (List.map_inj_right (fun a b => by simp only [zQr, imp_self])).1 h
theorem yJZ {l : List Key} (hp : l.length < 4611686018427387904) : FSK [.own 0 0 l.length, .fn (.func 86) [] []] [.row 2 true (l.map keyE)] = some (.tup [], [.row 2 true ((pdqL keyC l).map keyE)]) :=
 zIu (s := l) (fun s s' _ _ _ h2 => by rw [yCc (Blk.row.inj h2).2.2]) hp
theorem yJ0 {l : List Rec} {n : Nat} (hp : l.length ≤ 2048) (hn : n = l.length) : FSK [.own 0 0 n, .fn (.func 86) [] []] [.row 2 true ((l.map keyOf).map keyE)] = some (.tup [], [.row 2 true ((zEO l).map keyE)]) := by
 subst hn
 have h := yJZ (l := l.map keyOf) (by rw [List.length_map]; omega)
 rw [List.length_map] at h; exact h
theorem keyn {l : List Rec} {k : Nat} (h : (k : Int) < l.length) : ((zEO l).map keyE)[k]? = some (keyE (zEO l)[k]!) := getm (by rw [zQq]; omega)
theorem zZ0 {K : List Key} {i : Nat} (h : (List.range i).any (fun i => decide (64 < runK K (i + 1))) = false) (h2 : ¬ 64 < runK K (i + 1)) : (List.range (i + 1)).any (fun i => decide (64 < runK K (i + 1))) = false := by
 rw [List.range_succ, List.any_append, h, Bool.false_or]; simp [h2]
theorem yGl {K : List Key} {i : Nat} (hi : i < K.length) (h2 : 64 < runK K (i + 1)) : crwK K = true := by
 unfold crwK; rw [List.any_eq_true]; exact ⟨i, List.mem_range.2 hi, decide_eq_true h2⟩
theorem zUL {K : List Key} {i : Nat} (h0 : 0 < i) (h : K[i - 1]! = K[i]!) : runK K (i + 1) = runK K i + 1 := by rw [runK, if_pos ⟨h0, h⟩]
theorem zXY {K : List Key} {i : Nat} (h : ¬ (0 < i ∧ K[i - 1]! = K[i]!)) : runK K (i + 1) = 1 := by rw [runK, if_neg h]

theorem zNf (cx : Cx) (hP : cx.P = Tryz.prog) (hbs : cx.bs = 0) (h86 : cx.orc 86 = some zPm) (xn85 : cx.orc 85 = none) (xe85 : cx.ext 85 = none) (xf85 : cx.eff 85 = some FSK) (r86 : cx.rd.contains 86 = true) (hk3 : cx.kp 3 = some [3, 12, 13, 14]) (hk10 : cx.kp 10 = some [3, 6, 29, 30, 31]) (a : List Rec) (hl : a.length ≤ 2048) : zAj cx Tryz.f43 [] false [zAt a] = some (Res.flat (.bo (crwB a))) := by
 have c86 := zAa h86
 have d86 := zAh r86 h86
 have cf85 := fun H nid l => (show zDD cx 85 l H nid = _ from zCD xn85 xe85 xf85)
 have hw : ∀ k : Nat, (k : Int) < a.length → IntKind.i64.wrap ((k : Int) + 1) = ((k + 1 : Nat) : Int) := zBL (by omega)
 have hm1 : (0 ≤ (a.length : Int)) = True := by simp only [eq_iff_iff, iff_true]; omega
 have hm2 : (((24 : Nat) : Int) * (a.length : Int) ≤ 281474976710656) = True := by simp only [eq_iff_iff, iff_true]; omega
 have hm3 : ((24 : Int) * (a.length : Int) ≤ 281474976710656) = True := by simp only [eq_iff_iff, iff_true]; omega
 have hsk : FSK [.own 0 0 a.length, .fn (.func 86) [] []] [.row 2 true ((a.map keyOf).map keyE)] = some (.tup [], [.row 2 true ((zEO a).map keyE)]) := yJ0 hl rfl
 have hsk2 : ∀ s : Nat, ¬ (s : Int) < a.length → FSK [.own 0 0 (a.take s).length, .fn (.func 86) [] []] [.row 2 true (((a.take s).map keyOf).map keyE)] = some (.tup [], [.row 2 true ((zEO a).map keyE)]) := fun s h => by rw [zAW (by omega)]; exact hsk
 have hr0 : ∀ k : Nat, (k : Int) < a.length → (0 : Int) < k → ((zEO a).map keyE)[k - 1]? = some (keyE (zEO a)[k - 1]!) := fun k h h2 => keyn (by omega)
 have hp1 : ∀ k : Nat, (k : Int) < a.length → (0 : Int) < k → IntKind.i64.wrap ((k : Int) - 1) = ((k - 1 : Nat) : Int) := fun k h h2 => by rw [wrap64 (by omega) (by omega)]; omega
 have hb1 : ∀ k : Nat, (k : Int) < a.length → (((k - 1 : Nat) : Int) < (a.length : Int)) = True := fun k h => by simp only [eq_iff_iff, iff_true]; omega
 have hwr : ∀ k : Nat, (k : Int) < a.length → IntKind.i64.wrap (runK (zEO a) k + 1) = runK (zEO a) k + 1 := fun k h => by have := zXZ (zEO a) k; rw [wrap64 (by omega) (by omega)]
 have hz1 : ∀ k : Nat, ((k : Int) < 0) = False := fun k => by simp
 have hz2 : ∀ k : Nat, (0 ≤ (k : Int)) = True := fun k => by simp
 refine zAg (rs := [.tmp 2]) rfl hbs rfl ?_
 repeat' first
   | (refine zAw (σ := Nat) (fun s => [.own 0 0 (a.take s).length, zAt a, .it .i64 a.length, .it .i64 s]) (fun s => [.row 2 true (((a.take s).map keyOf).map keyE)]) (fun s => s ≤ a.length) (fun s => a.length - s) [3, 12, 13, 14] hbs (by exact hk3) (fun q jq b hb => by simp only [List.mem_singleton] at hb; subst hb; exact zA2 (fun _ => rfl)) (fun s js => ?_) (s := 0) [0] ?_ ?_ ?_ ?_ ?_)
   | (refine zAw (σ := Nat) (fun s => [.own 0 0 a.length, .it .i64 (runK (zEO a) s), .own 0 0 a.length, .it .i64 a.length, .it .i64 s]) (fun s => [.row 2 true ((zEO a).map keyE)]) (fun s => s ≤ a.length ∧ (List.range s).any (fun i => decide (64 < runK (zEO a) (i + 1))) = false) (fun s => a.length - s) [3, 6, 29, 30, 31] hbs (by exact hk10) (fun q jq b hb => by simp only [List.mem_singleton] at hb; subst hb; exact zA2 (fun _ => rfl)) (fun t jt => ?_) (s := 0) [0] ?_ ?_ ?_ ?_ ?_)
   | (refine zAR (fun h => ?_) (fun h => ?_) <;> (try simp only [cN] at h))
   | (refine zAN ?_ ?_)
   | simp (config := { decide := true }) only [↓cD, cU, cQ, cP, cB, zAJ, unD, zAf, zAd, idx, reduceCtorEq, ↓reduceIte, ofV, ofC, zAq, Nat.reduceEqDiff, zAG, cG, implies_true, forall_const, immL, immD, Res.flat, ren, renL, Int.reduceEq, Int.reduceLT, Int.reduceLE, Int.reduceNe, deref, ldD, zAF, zAk, zAI, zAs, cC, cS, refs, zAD, okId, List.all_nil, List.all_cons, Nat.reduceMul, Nat.reduceAdd, Nat.reduceLeDiff, zAv, c86, d86, zAo, zAp, zGq, ↓zAM, ↓zAQ, ↓zAL, ↓zAP, ↓zAK, ↓zAO, cV, cT, cF, cW, borT, borM, zAm, Res.via, zAu, zAb, refsB, Nat.reduceLT, Nat.reduceSub, Nat.reduceLeDiff, Nat.reduceMul, Nat.reduceAdd, Int.reduceToNat, appK, zAr, zAc, borL, zAl, zAn, zAE, cO, List.replicate, zAC, ofHp, ixOf, cS, refs, zAD, okId, List.all_nil, List.all_cons, Nat.reduceMul, Nat.reduceAdd, Nat.reduceLeDiff, zAv, zR9, zOv, zZa, zU1, zZd, zU2, zZb, zY9, zZc, yDZ, zR8, zR7, yD0, zR6, zU3, yD1, zQr, zSa, sz83, yC9, Tryz.underlying82, Tryz.underlying83, zXh, zNZ, zMe, zNY, zMd, yD7, yD9, yD6, yD8, bd83, el81, ap81, ze81, yJP, yJS, yDT, yDU, yDE, yIk, yHJ, yHM, yHO, yH3, yDF, yIh, ↓yJj, hw, hm1, hm2, hm3, hsk2, zIw, zIN, zIM, keyn, hr0, hwr, hz1, hz2, hb1, hp1, hP, *]
 all_goals first
   | rfl
   | omega
   | (rw [List.length_take]; omega)
   | exact ⟨Nat.zero_le _, rfl⟩
   | (refine ⟨[3], s + 1, ?_, ?_, ?_, ?_, by omega, by omega⟩ <;> (try rw [takeN (l := a) (by omega)]) <;> (try simp only [List.map_append, List.length_append, List.length_cons, List.length_nil, Nat.zero_add]) <;> (first | rfl | (simp only [zAv, refs, cR, cQ, ren, List.nil_append, List.cons_append, Nat.reduceEqDiff, ofHp, ixOf]; first | rfl | (simp; done))))
   | (have e := zUL (K := zEO a) (i := t) (by omega) (by assumption); have e2 : crwB a = true := (by rw [← zZ1]; exact yGl (i := t) (by rw [zQq]; omega) (by omega)); rw [e2])
   | (have e := zUL (K := zEO a) (i := t) (by omega) (by assumption); refine ⟨[0], t + 1, ?_, ?_, ?_, ?_, ⟨by omega, zZ0 jt.2 (by omega)⟩, by omega⟩ <;> (try rw [e]) <;> (first | rfl | (simp only [zAv, refs, cR, cQ, ren, List.nil_append, List.cons_append, Nat.reduceEqDiff, ofHp, ixOf]; first | rfl | (simp; done))))
   | (have e := zXY (K := zEO a) (i := t) (fun e => absurd e.2 (by assumption)); refine ⟨[0], t + 1, ?_, ?_, ?_, ?_, ⟨by omega, zZ0 jt.2 (by omega)⟩, by omega⟩ <;> (try rw [e]) <;> (first | rfl | (simp only [zAv, refs, cR, cQ, ren, List.nil_append, List.cons_append, Nat.reduceEqDiff, ofHp, ixOf]; first | rfl | (simp; done))))
   | (have e := zXY (K := zEO a) (i := t) (fun e => absurd e.1 (by omega)); refine ⟨[0], t + 1, ?_, ?_, ?_, ?_, ⟨by omega, zZ0 jt.2 (by omega)⟩, by omega⟩ <;> (try rw [e]) <;> (first | rfl | (simp only [zAv, refs, cR, cQ, ren, List.nil_append, List.cons_append, Nat.reduceEqDiff, ofHp, ixOf]; first | rfl | (simp; done))))
   | (have e := jt.2; rw [show t = a.length by omega] at e; have e2 : crwB a = false := (by rw [← zZ1, crwK, zQq]; exact e); rw [e2])
   | (rw [zAW (by omega)]; (first | rfl | (simp only [zAv, refs, cR, cQ, ren, List.nil_append, List.cons_append, Nat.reduceEqDiff, ofHp, ixOf]; first | rfl | (simp; done))))
   | (first | rfl | (simp only [zAv, refs, cR, cQ, ren, List.nil_append, List.cons_append, Nat.reduceEqDiff, ofHp, ixOf]; first | rfl | (simp; done)))
def entR (x : Rec) : D × D := (recE x, .bo true)
def addR (s : List Rec) (r : Rec) : List Rec := if hasL s r = true then s else s ++ [r]
def setR (l : List Rec) : List Rec := l.foldl addR []
theorem hasL_iff {l : List Rec} {r : Rec} : hasL l r = true ↔ r ∈ l := by
 unfold hasL
 rw [List.any_eq_true]
 constructor
 · rintro ⟨x, h1, h2⟩; rw [of_decide_eq_true h2] at h1; exact h1
 · intro h; exact ⟨r, h, decide_eq_true rfl⟩
theorem yGR {s : List Rec} {r x : Rec} : x ∈ addR s r ↔ x ∈ s ∨ x = r := by
 unfold addR
 split
 · rename_i h
   exact ⟨.inl, fun h2 => h2.elim id fun e => e ▸ hasL_iff.1 h⟩
 · simp
theorem zSk : ∀ (l s : List Rec) (x : Rec), x ∈ l.foldl addR s ↔ x ∈ s ∨ x ∈ l
 | [], s, x => by simp
 | r :: l, s, x => by
   show x ∈ l.foldl addR (addR s r) ↔ _
   rw [zSk l, yGR]; simp only [List.mem_cons, or_assoc]
theorem zVl (l : List Rec) (r : Rec) : hasL (setR l) r = hasL l r := by
 rw [Bool.eq_iff_iff, hasL_iff, hasL_iff, setR, zSk]; simp
theorem zXQ {l : List Rec} {i : Nat} (h : (i : Int) < l.length) : setR (l.take (i + 1)) = addR (setR (l.take i)) l[i]! := by
 unfold setR; rw [takeN h, List.foldl_append]; rfl
theorem zQE (r : Rec) : ∀ l : List Rec, zIE Tryz.prog 53 (recE r) (l.map entR) = some (l.findIdx? fun x => decide (r = x))
 | [] => rfl
 | x :: l => by
   have ih := zQE r l
   have h1 : eqD Tryz.prog 12 53 (recE r) (recE x) = some (decide (r = x)) := yCM 4 r x
   rw [List.map_cons]
   unfold entR
   rw [zIE, h1]
   show (if decide (r = x) = true then some (some 0) else (zIE Tryz.prog 53 (recE r) (l.map entR)).map _) = _
   rw [ih, List.findIdx?_cons]
   by_cases h : r = x
   · simp [h]
   · simp [h]
noncomputable def updM (H : Hp) (id : Nat) (es : List (D × D)) (k v : D) : Option Hp := (zIE Tryz.prog 53 k es).bind fun (o : Option Nat) => match o with
 | some j => if ((es[j]?).map fun p => zIZ p.1 k) = some true then some (upd H id (.mp (es.set j (k, v)))) else none
 | none => some (upd H id (.mp (es ++ [(k, v)])))
noncomputable def yB4 (es : List (D × D)) (k : D) : Option D := (zIE Tryz.prog 53 k es).map fun (o : Option Nat) => match o.bind (es[·]?) with | some p => p.2 | none => .bo false
theorem zUJ (r : Rec) : scal (recE r) = true := by simp [recE, recL, datL, adrL, scal, zXT]
theorem zWc (r : Rec) : zIZ (recE r) (recE r) = true := by
 simp [recE, recL, datL, adrL, zIZ, zKM]
theorem zOE (r : Rec) : (eqD Tryz.prog 12 53 (recE r) (recE r)).isSome = true := by
 have h1 : eqD Tryz.prog 12 53 (recE r) (recE r) = some (decide (r = r)) := yCM 4 r r
 rw [h1]; rfl
theorem yA8 (H : Hp) (id : Nat) (r : Rec) (b : Bool) : zJi Tryz.prog H 70 (.map id) (recE r) (.bo b) = match H id with | .mp es => updM H id es (recE r) (.bo b) | _ => none := by
 unfold zJi mapT
 rw [Tryz.underlying70]
 simp only [Option.bind_some, zUJ, immD, zOE, Bool.and_self, Bool.not_true, Bool.false_eq_true, if_false]
 rfl
theorem zR2 (H : Hp) (id : Nat) (r : Rec) : zHP Tryz.prog H 70 (.map id) (recE r) false = match H id with | .mp es => yB4 es (recE r) | _ => none := by
 unfold zHP mapT
 rw [Tryz.underlying70]
 simp only [Option.bind_some, zUJ, zOE, Bool.and_self, Bool.not_true, Bool.false_eq_true, if_false, show zHX Tryz.prog 4 = some (.bo false) from by kernel_rfl]
 cases H id with
 | mp es =>
   simp only [Option.bind_some]
   unfold yB4
   cases zIE Tryz.prog 53 (recE r) es with
   | none => rfl
   | some o => simp only [Option.map_some, Option.some.injEq]; cases o.bind (es[·]?) <;> rfl
 | _ => rfl
theorem yEp (H : Hp) (id : Nat) (s : List Rec) (r : Rec) : updM H id (s.map entR) (recE r) (.bo true) = some (upd H id (.mp ((addR s r).map entR))) := by
 unfold updM
 rw [zQE]
 simp only [Option.bind_some]
 cases h : s.findIdx? fun x => decide (r = x) with
 | none =>
   have h2 : hasL s r = false := by
     cases h3 : hasL s r with
     | false => rfl
     | true =>
       have h4 := hasL_iff.1 h3
       have := List.findIdx?_eq_none_iff.1 h r h4
       simp at this
   simp only []
   rw [addR, h2]
   simp [entR]
 | some j =>
   obtain ⟨hj, h2, _⟩ := List.findIdx?_eq_some_iff_getElem.1 h
   have h2 := of_decide_eq_true h2
   have h3 : hasL s r = true := hasL_iff.2 (h2 ▸ List.getElem_mem hj)
   simp only [List.getElem?_map, List.getElem?_eq_getElem hj, Option.map_some, entR, ← h2, zWc, if_true]
   rw [addR, h3, if_pos rfl]
   congr 3
   refine List.ext_getElem (by simp) fun k h4 h5 => ?_
   rw [List.getElem_set]
   split
   · rename_i e; subst e; simp [entR, ← h2]
   · rfl
theorem zUY (s : List Rec) (r : Rec) : yB4 (s.map entR) (recE r) = some (.bo (hasL s r)) := by
 unfold yB4
 rw [zQE]
 simp only [Option.map_some, Option.some.injEq]
 cases h : s.findIdx? fun x => decide (r = x) with
 | none =>
   have h2 : hasL s r = false := by
     cases h3 : hasL s r with
     | false => rfl
     | true =>
       have h4 := hasL_iff.1 h3
       have := List.findIdx?_eq_none_iff.1 h r h4
       simp at this
   rw [h2]; rfl
 | some j =>
   obtain ⟨hj, h2, _⟩ := List.findIdx?_eq_some_iff_getElem.1 h
   have h2 := of_decide_eq_true h2
   have h3 : hasL s r = true := hasL_iff.2 (h2 ▸ List.getElem_mem hj)
   simp only [Option.bind_some, List.getElem?_map, List.getElem?_eq_getElem hj, Option.map_some, entR, h3]
theorem yBW : nilC (.const (.map none)) = false := rfl
theorem yFj : ofV (.map none) = .nilm := rfl
theorem zWv {cx : Cx} {env : Nat → D} {H : Hp} {nid : Nat} {dst : Option Tmp} {ty t : TypeId} {pos : String} {after : Array Edge} {g : Option (Nat × Bool)} : opD cx env ⟨dst, .makeMap t none, ty, pos, after, g⟩ H nid = (mapT cx.P t).bind fun _ => some (.map nid, upd H nid (.mp []), nid + 1) := rfl
theorem yFq : mapT Tryz.prog 70 = some (53, 4) := by unfold mapT; rw [Tryz.underlying70]
theorem zL8 (s : List Rec) : zEw (.mp (s.map entR)) := by
 intro p hp
 obtain ⟨x, _, rfl⟩ := List.mem_map.1 hp
 exact ⟨rfl, rfl⟩

noncomputable def FSet := mkN (fun l : List Rec => [zAt l]) (fun l => l.length ≤ 1000000) (fun l => (.map 0, [.mp ((setR l).map entR)]))
theorem yG0 {l : List Rec} (hp : l.length ≤ 1000000) : FSet [zAt l] [] = some (.map 0, [.mp ((setR l).map entR)]) := yH6 (s := l) (fun s s' h => by simp only [List.cons.injEq, zQf, and_true] at h; rw [h]) hp
theorem zVF {l : List Rec} {H : Hp} {nid : Nat} (hp : l.length ≤ 1000000) : zEN FSet [zAt l] H nid = some (.map nid, upd H nid (.mp ((setR l).map entR)), nid + 1) := yB7 rfl (yG0 hp) (zL8 _)

theorem zM2 (cx : Cx) (hP : cx.P = Tryz.prog) (hbs : cx.bs = 0) (hk3 : cx.kp 3 = some [3, 7, 8, 9]) (l : List Rec) (hl : l.length ≤ 1000000) : zFl cx Tryz.f65 [zAt l] [] = some ((.map 0, [.mp ((setR l).map entR)])) := by
 have hw : ∀ k : Nat, (k : Int) < l.length → IntKind.i64.wrap ((k : Int) + 1) = ((k + 1 : Nat) : Int) := zBL (by omega)
 refine yCO (rs := [.tmp 2]) rfl hbs rfl ?_
 repeat' first
   | (refine zAw (σ := Nat) (fun s => [.map 0, zAt l, .it .i64 l.length, .it .i64 s]) (fun s => [.mp ((setR (l.take s)).map entR)]) (fun s => s ≤ l.length) (fun s => l.length - s) [3, 7, 8, 9] hbs (by exact hk3) (fun q jq b hb => by simp only [List.mem_singleton] at hb; subst hb; exact zL8 _) (fun s js => ?_) (s := 0) [0] ?_ ?_ ?_ ?_ ?_)
   | (refine zAR (fun h => ?_) (fun h => ?_) <;> (try simp only [cN] at h))
   | (refine zAN ?_ ?_)
   | simp only [↓cD, cU, cQ, cP, cB, zAJ, unD, zAf, zAd, idx, reduceCtorEq, ↓reduceIte, ofV, ofC, zAq, Nat.reduceEqDiff, zAG, cG, implies_true, forall_const, immL, immD, Res.flat, ren, renL, Int.reduceEq, Int.reduceLT, Int.reduceLE, Int.reduceNe, deref, ldD, zAF, zAk, zAI, zAs, cC, ↓zAM, ↓zAQ, ↓zAL, ↓zAP, ↓zAK, ↓zAO, cV, cT, cF, cW, borT, borM, zAm, Res.via, zAu, zAb, refsB, Nat.reduceLT, Nat.reduceSub, Nat.reduceLeDiff, Nat.reduceMul, Nat.reduceAdd, Int.reduceToNat, appK, zAr, zAc, borL, zAl, zAn, zAE, cO, List.replicate, zAC, ofHp, ixOf, hw, yA8, yEp, yBW, yFj, zWv, yFq, hP, *]
 all_goals first
   | rfl
   | omega
   | (rw [zAW (by omega)]; exact ⟨_, _, rfl, rfl, zL8 _, rfl⟩)
   | (refine ⟨[0], s + 1, ?_, ?_, ?_, ?_, by omega, by omega⟩ <;> (try rw [zXQ (by omega)]) <;> (first | rfl | (simp only [zAv, refs, cR, cQ, ren, List.nil_append, List.cons_append, Nat.reduceEqDiff, ofHp, ixOf]; first | rfl | (simp; done))))
   | (first | rfl | (simp only [zAv, refs, cR, cQ, ren, List.nil_append, List.cons_append, Nat.reduceEqDiff, ofHp, ixOf]; first | rfl | (simp; done)))
theorem zJC (cx : Cx) (hP : cx.P = Tryz.prog) (hbs : cx.bs = 0) (xn65 : cx.orc 65 = none) (xe65 : cx.ext 65 = none) (xf65 : cx.eff 65 = some FSet) (hk4 : cx.kp 4 = some [5, 6, 11, 12, 13]) (a b : List Rec) (hl : a.length ≤ 1000000 ∧ b.length ≤ 1000000) : zAj cx Tryz.f32 [] false [zAt a, zAt b] = some (Res.flat (zAt (zAi a b))) := by
 have cf65 := fun H nid l => (show zDD cx 65 l H nid = _ from zCD xn65 xe65 xf65)
 have hl2 := hl.2
 have hw : ∀ k : Nat, (k : Int) < a.length → IntKind.i64.wrap ((k : Int) + 1) = ((k + 1 : Nat) : Int) := zBL (by omega)
 refine zEf (rs := [.tmp 4]) rfl hbs rfl ?_
 repeat' first
   | (refine zAw (σ := Nat) (fun s => [.map 0, .own 1 0 (zAi (a.take s) b).length, zAt a, .it .i64 a.length, .it .i64 s]) (fun s => [.mp ((setR b).map entR), .row 16 true ((zAi (a.take s) b).map recE)]) (fun s => s ≤ a.length) (fun s => a.length - s) [5, 6, 11, 12, 13] hbs (by exact hk4) (fun q jq b hb => by simp only [List.mem_cons, List.not_mem_nil, or_false] at hb; rcases hb with rfl | rfl; exact zL8 _; exact zA2 (fun _ => rfl)) (fun s js => ?_) (s := 0) [1, 2] ?_ ?_ ?_ ?_ ?_)
   | (refine zAR (fun h => ?_) (fun h => ?_) <;> (try simp only [cN] at h))
   | (refine zAN ?_ ?_)
   | simp only [↓cD, cU, cQ, cP, cB, zAJ, unD, zAf, zAd, idx, reduceCtorEq, ↓reduceIte, ofV, ofC, zAq, Nat.reduceEqDiff, zAG, cG, implies_true, forall_const, immL, immD, Res.flat, ren, renL, Int.reduceEq, Int.reduceLT, Int.reduceLE, Int.reduceNe, deref, ldD, zAF, zAk, zAI, zAs, cC, ↓zAM, ↓zAQ, ↓zAL, ↓zAP, ↓zAK, ↓zAO, cV, cT, cF, cW, borT, borM, zAm, Res.via, zAu, zAb, refsB, Nat.reduceLT, Nat.reduceSub, Nat.reduceLeDiff, Nat.reduceMul, Nat.reduceAdd, Int.reduceToNat, appK, zAr, zAc, borL, zAl, zAn, zAE, cO, List.replicate, zAC, ofHp, ixOf, hw, hl2, zVF, zR2, zUY, zVl, hP, *]
 all_goals first
   | rfl
   | omega
   | (have hq := zA3 (a.take s) b; rw [List.length_take] at hq; omega)
   | (refine ⟨[0, 1], s + 1, ?_, ?_, ?_, ?_, by omega, by omega⟩ <;> (try rw [show zAi (a.take (s + 1)) b = zAi (a.take s) b from zMA (by omega) (by simp only [*, Bool.not_true])]) <;> (first | rfl | (simp only [zAv, refs, cR, cQ, ren, List.nil_append, List.cons_append, Nat.reduceEqDiff, ofHp, ixOf]; first | rfl | (simp; done))))
   | (refine ⟨[0, 4], s + 1, ?_, ?_, ?_, ?_, by omega, by omega⟩ <;> (try rw [show zAi (a.take (s + 1)) b = zAi (a.take s) b ++ [a[s]!] from zH4 (by omega) (by simp only [*, Bool.not_false])]) <;> (try simp only [List.length_append, List.length_cons, List.length_nil, Nat.zero_add]) <;> (first | rfl | (simp only [zAv, refs, cR, cQ, ren, List.nil_append, List.cons_append, Nat.reduceEqDiff, ofHp, ixOf]; first | rfl | (simp; done))))
   | (first | rfl | (simp only [zAv, refs, cR, cQ, ren, List.nil_append, List.cons_append, Nat.reduceEqDiff, ofHp, ixOf]; first | rfl | (simp; done)))
   | (rw [zAW (by omega)]; exact ⟨_, _, _, _, rfl, rfl, by simp, zBP (fun _ => rfl), rfl⟩)
noncomputable def zO0 := mkF (fun s : (List Rec) × (List Rec) => [zAt s.1, zAt s.2]) (fun s => s.1.length ≤ 1000000 ∧ s.2.length ≤ 1000000) (fun s => Res.flat (.bo (decide (((zAi s.1 s.2).length : Int) < s.1.length))))
theorem zVQ {a : List Rec} {b : List Rec} (hp : a.length ≤ 1000000 ∧ b.length ≤ 1000000) : zO0 [zAt a, zAt b] = some (Res.flat (.bo (decide (((zAi a b).length : Int) < a.length)))) := zAB (s := (a, b)) (fun s s' h => by simp only [cI] at h; simp only [h]) hp
theorem zJB (cx : Cx) (hP : cx.P = Tryz.prog) (hbs : cx.bs = 0) (h32 : cx.orc 32 = some FWo) (a b : List Rec) (hl : a.length ≤ 1000000 ∧ b.length ≤ 1000000) : zAj cx Tryz.f39 [] false [zAt a, zAt b] = some (Res.flat (.bo (decide (((zAi a b).length : Int) < a.length)))) := by
 have c32 := zAa h32
 have hl1 := hl.1; have hl2 := hl.2
 refine zAg (rs := [.tmp 4]) rfl hbs rfl ?_
 repeat' first
   | (refine zAR (fun h => ?_) (fun h => ?_) <;> (try simp only [cN] at h))
   | (refine zAN ?_ ?_)
   | simp only [↓cD, cU, cQ, cP, cB, zAJ, unD, zAf, zAd, idx, reduceCtorEq, ↓reduceIte, ofV, ofC, zAq, Nat.reduceEqDiff, zAG, cG, implies_true, forall_const, immL, immD, Res.flat, ren, renL, Int.reduceEq, Int.reduceLT, Int.reduceLE, Int.reduceNe, deref, ldD, zAF, zAk, zAI, zAs, cC, c32, zAo, zAp, zMf, ↓zAM, ↓zAQ, ↓zAL, ↓zAP, ↓zAK, ↓zAO, cV, cT, cF, cW, borT, borM, zAm, Res.via, zAu, zAb, refsB, Nat.reduceLT, Nat.reduceSub, Nat.reduceLeDiff, Nat.reduceMul, Nat.reduceAdd, Int.reduceToNat, appK, zAr, zAc, borL, zAl, zAn, zAE, cO, List.replicate, zAC, ofHp, ixOf, hl1, hl2, hP, *]
 all_goals first
   | rfl
def insQ (A : List Rec) (k : Nat) : List Rec := stS ltR (A.take k)
theorem zGl {A : List Rec} {k : Nat} (h : k ≤ A.length) : (insQ A k).length = k := by unfold insQ; rw [zEz, List.length_take]; omega
theorem yCo (A : List Rec) (k : Nat) : Srt ltR (insQ A k) := zJl wkR _
theorem yCp {A : List Rec} {k : Nat} {x : Rec} (h : x ∈ insQ A k) : x ∈ A := List.mem_of_mem_take ((zYP wkR).1 h)
theorem zZm {A : List Rec} {k : Nat} (h : (k : Int) < A.length) : insQ A (k + 1) = insS ltR (insQ A k) A[k]! := by
 unfold insQ stS; rw [takeN h, List.foldl_append]; rfl
def insV (P A S : List Rec) (k : Nat) : List Rec := P ++ insQ A k ++ A.drop k ++ S
def insW (P A S : List Rec) (k t : Nat) : List Rec := P ++ (insQ A k).take t ++ A[k]! :: ((insQ A k).drop t ++ (A.drop (k + 1) ++ S))
structure InsP (P A S : List Rec) : Prop where
 n : P.length + A.length + S.length ≤ 1000000
 r : ∀ r ∈ A, RSm r
structure InsJ (A : List Rec) (k t : Nat) : Prop where
 le : t ≤ k
 gt : ∀ y ∈ (insQ A k).drop t, ltR A[k]! y = true
theorem yCl (P A S : List Rec) : insV P A S 1 = P ++ A ++ S := by
 unfold insV insQ
 cases A with
 | nil =>
   have : stS ltR (([] : List Rec).take 1) = [] := rfl
   rw [this]; simp
 | cons a r =>
   have : stS ltR ((a :: r).take 1) = [a] := rfl
   rw [this]; simp
theorem zWz {P A S : List Rec} {k : Nat} (h : (k : Int) < A.length) : insV P A S k = insW P A S k k := by
 have hl := zGl (A := A) (k := k) (by omega)
 unfold insV insW
 rw [zEr h, show (insQ A k).take k = insQ A k from List.take_of_length_le (by omega), show (insQ A k).drop k = [] from List.drop_of_length_le (by omega)]; simp
theorem zZn {A : List Rec} {k t : Nat} (h : (k : Int) < A.length) (ht : 0 < t) (hk : t ≤ k) : (insQ A k).take t = (insQ A k).take (t - 1) ++ [(insQ A k)[t - 1]!] := by
 have hl := zGl (A := A) (k := k) (by omega)
 have := takeN (l := insQ A k) (i := t - 1) (by omega)
 rwa [show t - 1 + 1 = t by omega] at this
theorem zSe {A : List Rec} {k t : Nat} (h : (k : Int) < A.length) (ht : 0 < t) (hk : t ≤ k) : (insQ A k).drop (t - 1) = (insQ A k)[t - 1]! :: (insQ A k).drop t := by
 have hl := zGl (A := A) (k := k) (by omega)
 have := zEr (l := insQ A k) (k := t - 1) (by omega)
 rwa [show t - 1 + 1 = t by omega] at this
theorem yCk {P A S : List Rec} {k t : Nat} (h : (k : Int) < A.length) (j : InsJ A k t) : ((insW P A S k t).map recE)[P.length + t]? = some (recE A[k]!) := by
 have hl := zGl (A := A) (k := k) (by omega); have := j.le
 rw [List.getElem?_map, zNp (show insW P A S k t = (P ++ (insQ A k).take t) ++ A[k]! :: ((insQ A k).drop t ++ (A.drop (k + 1) ++ S)) from rfl) (by simp; omega)]; rfl
theorem yIp {P A S : List Rec} {k t : Nat} (h : (k : Int) < A.length) (ht : 0 < t) (hk : t ≤ k) : insW P A S k t = (P ++ (insQ A k).take (t - 1)) ++ (insQ A k)[t - 1]! :: (A[k]! :: ((insQ A k).drop t ++ (A.drop (k + 1) ++ S))) := by
 unfold insW; rw [zZn h ht hk]; simp
theorem zVf {P A S : List Rec} {k t : Nat} (h : (k : Int) < A.length) (j : InsJ A k t) (ht : 0 < t) : ((insW P A S k t).map recE)[P.length + t - 1]? = some (recE (insQ A k)[t - 1]!) := by
 have hl := zGl (A := A) (k := k) (by omega); have hk := j.le
 rw [List.getElem?_map, zNp (yIp h ht hk) (by simp; omega)]; rfl
theorem yCj {P A S : List Rec} {k t : Nat} {x : D} (h : (k : Int) < A.length) (j : InsJ A k t) (ht : 0 < t) : (((insW P A S k t).map recE).set (P.length + t) x)[P.length + t - 1]? = some (recE (insQ A k)[t - 1]!) := by
 rw [List.getElem?_set_ne (by omega), zVf h j ht]
theorem yCi {P A S : List Rec} {k t : Nat} (h : (k : Int) < A.length) (j : InsJ A k t) (ht : 0 < t) : (((insW P A S k t).map recE).set (P.length + t) (recE (insQ A k)[t - 1]!)).set (P.length + t - 1) (recE A[k]!) = (insW P A S k (t - 1)).map recE := by
 have hl := zGl (A := A) (k := k) (by omega); have hk := j.le
 rw [← List.map_set, ← List.map_set]
 congr 1
 rw [zIv (show insW P A S k t = (P ++ (insQ A k).take t) ++ A[k]! :: ((insQ A k).drop t ++ (A.drop (k + 1) ++ S)) from rfl) (by simp; omega)]
 have e : (P ++ (insQ A k).take t) ++ (insQ A k)[t - 1]! :: ((insQ A k).drop t ++ (A.drop (k + 1) ++ S)) = (P ++ (insQ A k).take (t - 1)) ++ (insQ A k)[t - 1]! :: ((insQ A k)[t - 1]! :: ((insQ A k).drop t ++ (A.drop (k + 1) ++ S))) := by
   rw [zZn h ht hk]; simp
 rw [zIv e (by simp; omega)]
 unfold insW
 rw [zSe h ht hk]; simp
theorem zWA {A : List Rec} {k : Nat} (h : (k : Int) < A.length) : InsJ A k k := ⟨Nat.le_refl _, fun y hy => by rw [List.drop_of_length_le (by rw [zGl (by omega)]; omega)] at hy; cases hy⟩
theorem zZo {A : List Rec} {k t : Nat} (h : (k : Int) < A.length) (j : InsJ A k t) (ht : 0 < t) (hc : cmpR A[k]! (insQ A k)[t - 1]! < 0) : InsJ A k (t - 1) :=
 ⟨by have := j.le; omega, fun y hy => by
   rw [zSe h ht j.le] at hy
   rcases List.mem_cons.1 hy with rfl | hy
   · exact decide_eq_true hc
   · exact j.gt y hy⟩
theorem zVt {α : Type} {p : α → Bool} {l : List α} (h : ∀ x ∈ l, p x = true) : l.filter p = l := List.filter_eq_self.2 h
theorem zSl {α : Type} {p : α → Bool} {l : List α} (h : ∀ x ∈ l, p x = false) : l.filter p = [] := List.filter_eq_nil_iff.2 fun x hx => by rw [h x hx]; decide
theorem yFE {A : List Rec} {k t : Nat} (j : InsJ A k t) (h0 : ∀ y ∈ (insQ A k).take t, ltR A[k]! y = false) : insS ltR (insQ A k) A[k]! = (insQ A k).take t ++ A[k]! :: (insQ A k).drop t := by
 unfold insS
 conv => lhs; rw [← List.take_append_drop t (insQ A k)]
 rw [List.filter_append, List.filter_append, zVt (fun y hy => by rw [h0 y hy]; rfl), zSl (l := (insQ A k).drop t) (fun y hy => by rw [j.gt y hy]; rfl), zSl (fun y hy => h0 y hy), zVt (fun y hy => j.gt y hy)]
 simp
theorem yFD {P A S : List Rec} {k t : Nat} (h : (k : Int) < A.length) (j : InsJ A k t) (hc : 0 < t → ¬ cmpR A[k]! (insQ A k)[t - 1]! < 0) : insW P A S k t = insV P A S (k + 1) := by
 have hl := zGl (A := A) (k := k) (by omega); have hk := j.le
 have h0 : ∀ y ∈ (insQ A k).take t, ltR A[k]! y = false := by
   intro y hy
   by_cases ht : 0 < t
   · obtain ⟨i, hi, rfl⟩ := List.mem_iff_getElem.1 hy
     rw [List.length_take] at hi
     rw [List.getElem_take]
     have h1 : ltR A[k]! (insQ A k)[t - 1]! = false := decide_eq_false (hc ht)
     have h2 := zIe wkR (yCo A k) (i := i) (j := t - 1) (by omega) (by omega)
     rw [getElem!_pos (insQ A k) (t - 1) (by omega)] at h1
     exact wkR.ntr h1 h2
   · rw [show t = 0 by omega] at hy; simp at hy
 unfold insV insW
 rw [zZm h, yFE j h0]; simp

noncomputable def zMM  := mkE (fun s : List Rec × List Rec × List Rec => .own 0 0 (s.1 ++ s.2.1 ++ s.2.2).length :: [.it .i64 s.1.length, .it .i64 ((s.1.length + s.2.1.length : Nat) : Int), .fn (.func 80) [] []]) (fun s => .row 16 true ((s.1 ++ s.2.1 ++ s.2.2).map recE)) (fun s => InsP s.1 s.2.1 s.2.2) (fun s => (.tup [], [.row 16 true ((s.1 ++ stS ltR s.2.1 ++ s.2.2).map recE)]))
theorem yDo  {P A S : List Rec} (hp : InsP P A S) : zMM (.own 0 0 (P ++ A ++ S).length :: [.it .i64 P.length, .it .i64 ((P.length + A.length : Nat) : Int), .fn (.func 80) [] []]) [.row 16 true ((P ++ A ++ S).map recE)] = some (.tup [], [.row 16 true ((P ++ stS ltR A ++ S).map recE)]) := by
 refine zIu (s := (P, A, S)) ?_ hp
 rintro ⟨P, A, S⟩ ⟨P', A', S'⟩ p1 p2 h1 h2
 simp only [List.cons.injEq, D.own.injEq, D.it.injEq, true_and, and_true, Int.ofNat_inj] at h1
 have h3 := zGh (Blk.row.inj h2).2.2
 simp only [List.length_append] at h1
 simp only [] at h3
 simp only [List.append_assoc] at h3
 obtain ⟨e1, h3⟩ := zGb h3 (by omega)
 obtain ⟨e2, e3⟩ := zGb h3 (by omega)
 subst e1; subst e2; subst e3; rfl
theorem zVS  {P A S l l' : List Rec} {tot nid : Nat} {rest : List D} (hp : InsP P A S) (hl : l = P ++ A ++ S) (hl' : l' = P ++ stS ltR A ++ S) (ht : tot = l.length) (hr : rest = [.it .i64 P.length, .it .i64 ((P.length + A.length : Nat) : Int), .fn (.func 80) [] []]) : zEN (zMM) (.own 0 0 tot :: rest) (ofHp [.row 16 true (l.map recE)]) nid = some (.tup [], ofHp [.row 16 true (l'.map recE)], nid) := by
 subst hr; subst ht; subst hl; subst hl'
 exact zYT rfl (yDo hp)
def insT (P A S : List Rec) : Nat := (P ++ A ++ S).length
theorem zZk (P A S : List Rec) : insT P A S = P.length + A.length + S.length := by simp [insT]; omega
theorem zJG (cx : Cx) (hP : cx.P = Tryz.prog) (hbs : cx.bs = 1) (h80 : cx.orc 80 = some zG6) (r80 : cx.rd.contains 80 = true) (hk1 : cx.kp 1 = some [0, 1, 2, 3, 8]) (hk4 : cx.kp 4 = some [0, 1, 2, 3, 8, 9]) (P A S : List Rec) (hl : InsP P A S) : zFl cx Tryz.f138 [.own 0 0 (insT P A S), .it .i64 P.length, .it .i64 ((P.length + A.length : Nat) : Int), .fn (.func 80) [] []] [.row 16 true ((P ++ A ++ S).map recE)] = some ((.tup [], [.row 16 true ((P ++ stS ltR A ++ S).map recE)])) := by
 have c80 := zAa h80
 have d80 := zAh r80 h80
 have hN := hl.n
 have hw1 : IntKind.i64.wrap ((P.length : Int) + 1) = ((P.length + 1 : Nat) : Int) := by rw [wrap64 (by omega) (by omega)]; omega
 have hw2 : ∀ k : Nat, (k : Int) < A.length → IntKind.i64.wrap (((P.length + k : Nat) : Int) + 1) = ((P.length + (k + 1) : Nat) : Int) := fun k h => by rw [wrap64 (by omega) (by omega)]; omega
 have hlt : ∀ k : Nat, (((P.length + k : Nat) : Int) < ((P.length + A.length : Nat) : Int)) = ((k : Int) < A.length) := fun k => by simp only [eq_iff_iff]; omega
 have hgt : ∀ t : Nat, ((P.length : Int) < ((P.length + t : Nat) : Int)) = (0 < t) := fun t => by simp only [eq_iff_iff]; omega
 have hw3 : ∀ t : Nat, t < A.length → 0 < t → IntKind.i64.wrap (((P.length + t : Nat) : Int) - 1) = ((P.length + t - 1 : Nat) : Int) := fun t h ht => by rw [wrap64 (by omega) (by omega)]; omega
 have hw4 : ∀ t : Nat, ((P.length + t - 1 : Nat) : Int) = ((P.length + t - 1 : Nat) : Int) := fun t => rfl
 have hb1 : ∀ t : Nat, t < A.length → (((P.length + t : Nat) : Int) < (insT P A S : Int)) = True := fun t h => by have := zZk P A S; simp only [eq_iff_iff, iff_true]; omega
 have hb2 : ∀ t : Nat, t < A.length → 0 < t → (((P.length + t - 1 : Nat) : Int) < (insT P A S : Int)) = True := fun t h ht => by have := zZk P A S; simp only [eq_iff_iff, iff_true]; omega
 have hb3 : ∀ k : Nat, ((k : Int) < 0) = False := fun k => by simp
 have hb4 : ∀ k : Nat, (0 ≤ (k : Int)) = True := fun k => by simp
 have hcmp : ∀ k t : Nat, (k : Int) < A.length → InsJ A k t → 0 < t → zG6 [recE A[k]!, recE (insQ A k)[t - 1]!] = some (Res.flat (.it .i64 (cmpR A[k]! (insQ A k)[t - 1]!))) := fun k t h j ht => zCE ⟨hl.r _ (zBO h), hl.r _ (yCp (k := k) (zBO (by rw [zGl (by omega)]; have := j.le; omega)))⟩
 have hdy := fun {nx bef i : Nat} {env : Nat → D} {H : Hp} {dst : Option Tmp} {ty : TypeId} {pos : String} {after : Array Edge} {gd : Option (Nat × Bool)} {k : Tmp} {args : Array Operand} {ts : Array TypeId} (hk : env k = .fn (.func 80) [] []) (hr : zAD nx bef i H (refs (env k) ++ zAv (args.toList.map (ev env))) = true) (hi : immL (args.toList.map (ev env)) = true) => zNv (cx := cx) (nx := nx) (bef := bef) (i := i) (env := env) (H := H) (dst := dst) (ty := ty) (pos := pos) (after := after) (gd := gd) (k := k) (args := args) (ts := ts) hk h80 hr hi
 refine zJ7 (rs := []) rfl hbs rfl ?_
 repeat' first
   | (refine zBz (σ := Nat) (fun k => [.own 0 0 (insT P A S), .it .i64 P.length, .it .i64 ((P.length + A.length : Nat) : Int), .fn (.func 80) [] [], .it .i64 ((P.length + k : Nat) : Int)]) (fun k => [.row 16 true ((insV P A S k).map recE)]) (fun k => 1 ≤ k ∧ (k ≤ A.length ∨ k = 1)) (fun k => A.length - k) [0, 1, 2, 3, 8] hbs (by exact hk1) (fun q jq b hb => by simp only [List.mem_singleton] at hb; subst hb; exact zCt _) (fun k jk => ?_) (s := 1) [0] ?_ ?_ ?_ ?_ ?_ ?_)
   | (refine zBz (σ := Nat) (fun t => [.own 0 0 (insT P A S), .it .i64 P.length, .it .i64 ((P.length + A.length : Nat) : Int), .fn (.func 80) [] [], .it .i64 ((P.length + k : Nat) : Int), .it .i64 ((P.length + t : Nat) : Int)]) (fun t => [.row 16 true ((insW P A S k t).map recE)]) (fun t => InsJ A k t ∧ t < A.length) (fun t => t) [0, 1, 2, 3, 8, 9] hbs (by exact hk4) (fun q jq b hb => by simp only [List.mem_singleton] at hb; subst hb; exact zCt _) (fun t jt => ?_) (s := k) [0] ?_ ?_ ?_ ?_ ?_ ?_)
   | (refine zAR (fun h => ?_) (fun h => ?_) <;> (try simp only [cN] at h))
   | (refine zAN ?_ ?_)
   | simp (config := { decide := true }) only [↓cD, cU, cQ, cP, cB, zAJ, unD, zAf, zAd, idx, reduceCtorEq, ↓reduceIte, ofV, ofC, zAq, Nat.reduceEqDiff, zAG, cG, implies_true, forall_const, immL, immD, Res.flat, ren, renL, Int.reduceEq, Int.reduceLT, Int.reduceLE, Int.reduceNe, deref, ldD, zAF, zAk, zAI, zAs, cC, cS, refs, zAD, okId, List.all_nil, List.all_cons, Nat.reduceMul, Nat.reduceAdd, Nat.reduceLeDiff, zAv, c80, d80, zAo, zAp, zCE, ↓zAM, ↓zAQ, ↓zAL, ↓zAP, ↓zAK, ↓zAO, cV, cT, cF, cW, borT, borM, zAm, Res.via, zAu, zAb, refsB, Nat.reduceLT, Nat.reduceSub, Nat.reduceLeDiff, Nat.reduceMul, Nat.reduceAdd, Int.reduceToNat, appK, zAr, zAc, borL, zAl, zAn, zAE, cO, List.replicate, zAC, ofHp, ixOf, cS, refs, zAD, okId, List.all_nil, List.all_cons, Nat.reduceMul, Nat.reduceAdd, Nat.reduceLeDiff, zAv, zDH, zJk, updL, hw1, hw2, hw3, hw4, hlt, hgt, hb1, hb2, hb3, hb4, hcmp, hdy, yCk, zVf, yCj, yCi, zKi, hP, *]
 all_goals first
   | rfl
   | omega
   | (rw [zWz ‹_›]; done)
   | exact ⟨zWA ‹_›, by omega⟩
   | (refine ⟨[0], t - 1, ?_, ?_, ?_, ?_, ?_, ⟨zZo ‹_› jt.1 ‹_› ‹_›, by have := jt.2; omega⟩, by omega⟩ <;> first | rfl | (rw [Nat.add_sub_assoc (by omega)]; rfl))
   | (refine ⟨[0], k + 1, ?_, ?_, ?_, ?_, ?_, ⟨by omega, by omega⟩, by omega⟩ <;> first | rfl | (rw [yFD ‹_› jt.1 (fun h => by first | assumption | (exfalso; omega))]; rfl))
   | (have e : insV P A S k = P ++ stS ltR A ++ S := (by unfold insV insQ; rw [List.take_of_length_le (by omega), List.drop_of_length_le (by omega)]; simp); rw [e]; exact ⟨_, rfl, zCt _, by simp, rfl⟩)
   | (rw [yCl]; done)
theorem at_P {P L R S : List Rec} {i : Nat} (h : (i : Int) < L.length) : ((P ++ L ++ R ++ S).map recE)[P.length + i]? = some (recE L[i]!) := by
 rw [List.getElem?_map, zNp (show P ++ L ++ R ++ S = (P ++ L.take i) ++ L[i]! :: (L.drop (i + 1) ++ R ++ S) by rw [← List.cons_append, ← List.cons_append, ← zEr h]; simp only [List.append_assoc]; rw [← List.append_assoc (L.take i), List.take_append_drop]) (by simp; omega)]; rfl
theorem at_R {P L R S : List Rec} {i : Nat} (h : (i : Int) < R.length) : ((P ++ L ++ R ++ S).map recE)[P.length + L.length + i]? = some (recE R[i]!) := by
 have := at_P (P := P ++ L) (L := R) (R := []) (S := S) h
 rw [List.length_append] at this
 simpa using this
def shW (P Q T : List Rec) (x : Rec) (t : Nat) : List Rec := P ++ Q.take t ++ x :: (Q.drop t ++ T)
theorem yDJ {P Q T : List Rec} {x : Rec} {t : Nat} (h : t ≤ Q.length) : ((shW P Q T x t).map recE)[P.length + t]? = some (recE x) := by
 rw [List.getElem?_map, zNp (show shW P Q T x t = (P ++ Q.take t) ++ x :: (Q.drop t ++ T) from rfl) (by simp; omega)]; rfl
theorem yEP {P Q T : List Rec} {x : Rec} {t : Nat} (h : t < Q.length) : ((shW P Q T x t).map recE)[P.length + t]? = some (recE x) := yDJ (Nat.le_of_lt h)
theorem yKj {P Q T : List Rec} {x : Rec} {t : Nat} (h : (t : Int) < Q.length) : shW P Q T x t = (P ++ Q.take t ++ [x]) ++ Q[t]! :: (Q.drop (t + 1) ++ T) := by unfold shW; rw [zEr h]; simp
theorem yKi {P Q T : List Rec} {x : Rec} {t : Nat} (h : t < Q.length) : shW P Q T x (t + 1) = (P ++ Q.take t) ++ Q[t]! :: (x :: (Q.drop (t + 1) ++ T)) := by unfold shW; rw [takeN (l := Q) (by omega)]; simp
theorem zUI {P Q T : List Rec} {x : Rec} {t : Nat} (h' : t < Q.length) : ((shW P Q T x t).map recE)[P.length + (t + 1)]? = some (recE Q[t]!) := by
 have h : (t : Int) < Q.length := by omega
 rw [List.getElem?_map, zNp (yKj h) (by simp; omega)]; rfl
theorem zXP {P Q T : List Rec} {x : Rec} {t : Nat} {y : D} (h : t < Q.length) : (((shW P Q T x t).map recE).set (P.length + t) y)[P.length + (t + 1)]? = some (recE Q[t]!) := by
 rw [List.getElem?_set_ne (by omega), zUI h]
theorem yBt {P Q T : List Rec} {x : Rec} {t : Nat} (h' : t < Q.length) : (((shW P Q T x t).map recE).set (P.length + t) (recE Q[t]!)).set (P.length + (t + 1)) (recE x) = (shW P Q T x (t + 1)).map recE := by
 have h : (t : Int) < Q.length := by omega
 rw [← List.map_set, ← List.map_set]
 congr 1
 rw [zIv (show shW P Q T x t = (P ++ Q.take t) ++ x :: (Q.drop t ++ T) from rfl) (by simp; omega)]
 have e : (P ++ Q.take t) ++ Q[t]! :: (Q.drop t ++ T) = (P ++ Q.take t ++ [Q[t]!]) ++ Q[t]! :: (Q.drop (t + 1) ++ T) := by rw [zEr h]; simp
 rw [zIv e (by simp; omega)]
 unfold shW; rw [takeN h]; simp
theorem zUH {P Q T : List Rec} {x : Rec} {t : Nat} (h0 : 0 < t) (h : t ≤ Q.length) : ((shW P Q T x t).map recE)[P.length + t - 1]? = some (recE Q[t - 1]!) := by
 obtain ⟨s, rfl⟩ : ∃ s, t = s + 1 := ⟨t - 1, by omega⟩
 rw [List.getElem?_map, zNp (yKi (by omega)) (by simp; omega)]; rfl
theorem zXO {P Q T : List Rec} {x : Rec} {t : Nat} {y : D} (h0 : 0 < t) (h : t ≤ Q.length) : (((shW P Q T x t).map recE).set (P.length + t) y)[P.length + t - 1]? = some (recE Q[t - 1]!) := by
 rw [List.getElem?_set_ne (by omega), zUH h0 h]
theorem yBs {P Q T : List Rec} {x : Rec} {t : Nat} (h0 : 0 < t) (h : t ≤ Q.length) : (((shW P Q T x t).map recE).set (P.length + t) (recE Q[t - 1]!)).set (P.length + t - 1) (recE x) = (shW P Q T x (t - 1)).map recE := by
 obtain ⟨s, rfl⟩ : ∃ s, t = s + 1 := ⟨t - 1, by omega⟩
 rw [← List.map_set, ← List.map_set]
 congr 1
 simp only [Nat.add_sub_cancel]
 rw [zIv (show shW P Q T x (s + 1) = (P ++ Q.take (s + 1)) ++ x :: (Q.drop (s + 1) ++ T) from rfl) (by simp; omega)]
 have e : (P ++ Q.take (s + 1)) ++ Q[s]! :: (Q.drop (s + 1) ++ T) = (P ++ Q.take s) ++ Q[s]! :: (Q[s]! :: (Q.drop (s + 1) ++ T)) := by rw [takeN (l := Q) (by omega)]; simp
 rw [zIv e (by simp; omega)]
 unfold shW; rw [zEr (l := Q) (k := s) (by omega)]; rfl
theorem get1 {L : List Rec} (h : (L.length : Int) = 1) : L = [L[0]!] := by
 match L, h with
 | [x], _ => rfl
structure SrA (R : List Rec) (x : Rec) (q : Nat × Nat) : Prop where
 le : q.1 ≤ q.2
 n : q.2 ≤ R.length
 lo : ∀ y ∈ R.take q.1, ltR y x = true
 hi : ∀ y ∈ R.drop q.2, ltR y x = false
structure SrB (L : List Rec) (x : Rec) (q : Nat × Nat) : Prop where
 le : q.1 ≤ q.2
 n : q.2 ≤ L.length
 lo : ∀ y ∈ L.take q.1, ltR x y = false
 hi : ∀ y ∈ L.drop q.2, ltR x y = true
theorem zUz {L : List Rec} {y : Rec} {k : Nat} (h : y ∈ L.take k) : ∃ i, ∃ hi : i < L.length, i < k ∧ L[i] = y := by
 obtain ⟨i, hi, rfl⟩ := List.mem_iff_getElem.1 h
 rw [List.length_take] at hi
 exact ⟨i, by omega, by omega, by rw [List.getElem_take]⟩
theorem zVx {L : List Rec} {y : Rec} {k : Nat} (h : y ∈ L.drop k) : ∃ i, ∃ hi : i < L.length, k ≤ i ∧ L[i] = y := by
 obtain ⟨i, hi, rfl⟩ := List.mem_iff_getElem.1 h
 rw [List.length_drop] at hi
 exact ⟨k + i, by omega, by omega, by rw [List.getElem_drop]⟩
theorem yHH {R : List Rec} {x : Rec} {q : Nat × Nat} (hs : Srt ltR R) (j : SrA R x q) (h : (q.1 : Int) < q.2) (hc : cmpR R[(q.1 + q.2) / 2]! x < 0) : SrA R x ((q.1 + q.2) / 2 + 1, q.2) := by
 have h1 := j.le; have h2 := j.n
 refine ⟨by simp only; omega, j.n, fun y hy => ?_, j.hi⟩
 obtain ⟨i, hi, hk, rfl⟩ := zUz hy
 have h3 : ltR R[(q.1 + q.2) / 2]! x = true := decide_eq_true hc
 rw [getElem!_pos R _ (by omega)] at h3
 exact wkR.le_lt (zIe wkR hs (i := i) (j := (q.1 + q.2) / 2) (by simp only at hk; omega) (by omega)) h3
theorem yHI {R : List Rec} {x : Rec} {q : Nat × Nat} (hs : Srt ltR R) (j : SrA R x q) (h : (q.1 : Int) < q.2) (hc : ¬ cmpR R[(q.1 + q.2) / 2]! x < 0) : SrA R x (q.1, (q.1 + q.2) / 2) := by
 have h1 := j.le; have h2 := j.n
 refine ⟨by simp only; omega, by simp only; omega, j.lo, fun y hy => ?_⟩
 obtain ⟨i, hi, hk, rfl⟩ := zVx hy
 have h3 : ltR R[(q.1 + q.2) / 2]! x = false := decide_eq_false hc
 rw [getElem!_pos R _ (by omega)] at h3
 exact wkR.ntr (zIe wkR hs (i := (q.1 + q.2) / 2) (j := i) (by simp only at hk; omega) hi) h3
theorem yHF {R : List Rec} {x : Rec} {q : Nat × Nat} (hs : Srt ltR R) (j : SrB R x q) (h : (q.1 : Int) < q.2) (hc : ¬ cmpR x R[(q.1 + q.2) / 2]! < 0) : SrB R x ((q.1 + q.2) / 2 + 1, q.2) := by
 have h1 := j.le; have h2 := j.n
 refine ⟨by simp only; omega, j.n, fun y hy => ?_, j.hi⟩
 obtain ⟨i, hi, hk, rfl⟩ := zUz hy
 have h3 : ltR x R[(q.1 + q.2) / 2]! = false := decide_eq_false hc
 rw [getElem!_pos R _ (by omega)] at h3
 exact wkR.ntr h3 (zIe wkR hs (i := i) (j := (q.1 + q.2) / 2) (by simp only at hk; omega) (by omega))
theorem yHG {R : List Rec} {x : Rec} {q : Nat × Nat} (hs : Srt ltR R) (j : SrB R x q) (h : (q.1 : Int) < q.2) (hc : cmpR x R[(q.1 + q.2) / 2]! < 0) : SrB R x (q.1, (q.1 + q.2) / 2) := by
 have h1 := j.le; have h2 := j.n
 refine ⟨by simp only; omega, by simp only; omega, j.lo, fun y hy => ?_⟩
 obtain ⟨i, hi, hk, rfl⟩ := zVx hy
 have h3 : ltR x R[(q.1 + q.2) / 2]! = true := decide_eq_true hc
 rw [getElem!_pos R _ (by omega)] at h3
 exact wkR.lt_le h3 (zIe wkR hs (i := (q.1 + q.2) / 2) (j := i) (by simp only at hk; omega) hi)
theorem yEO {L R P S : List Rec} {q : Nat × Nat} (h1 : (L.length : Int) = 1) (hs : Srt ltR R) (j : SrA R L[0]! q) (h : ¬ (q.1 : Int) < q.2) : shW P R S L[0]! q.1 = P ++ stS ltR (L ++ R) ++ S := by
 have e : q.2 = q.1 := by have := j.le; omega
 have hi := j.hi; rw [e] at hi
 have h2 := zK4 wkR (L1 := []) (L2 := [L[0]!]) (R1 := R.take q.1) (R2 := R.drop q.1) (List.pairwise_singleton _ _) (by rw [List.take_append_drop]; exact hs) (fun x hx y hy => by rw [List.mem_singleton.1 hx]; exact j.lo y hy) (fun x hx => by simp at hx)
 rw [List.take_append_drop, List.nil_append, List.nil_append, ← get1 h1] at h2
 rw [h2]
 have h3 : stS ltR (R.take q.1) = R.take q.1 := zHc wkR (hs.sublist (List.take_sublist _ _))
 have h4 : stS ltR (L ++ R.drop q.1) = L[0]! :: R.drop q.1 := by
   have : L ++ R.drop q.1 = L[0]! :: R.drop q.1 := by conv => lhs; rw [get1 h1]
                                                      rfl
   rw [this]
   exact zHc wkR (List.pairwise_cons.2 ⟨fun y hy => hi y hy, hs.sublist (List.drop_sublist _ _)⟩)
 rw [h3, h4]; simp [shW]
theorem yEN {L R P S : List Rec} {q : Nat × Nat} (h1 : (R.length : Int) = 1) (hs : Srt ltR L) (j : SrB L R[0]! q) (h : ¬ (q.1 : Int) < q.2) : shW P L S R[0]! q.1 = P ++ stS ltR (L ++ R) ++ S := by
 have e : q.2 = q.1 := by have := j.le; omega
 have hi := j.hi; rw [e] at hi
 have h2 := zK4 wkR (L1 := L.take q.1) (L2 := L.drop q.1) (R1 := [R[0]!]) (R2 := []) (by rw [List.take_append_drop]; exact hs) (by simp [Srt]) (fun x hx y hy => by rw [List.mem_singleton.1 hy]; exact hi x hx) (fun x hx y hy => by simp at hy)
 rw [List.take_append_drop, List.append_nil, List.append_nil, ← get1 h1] at h2
 rw [h2]
 have h3 : stS ltR (L.drop q.1) = L.drop q.1 := zHc wkR (hs.sublist (List.drop_sublist _ _))
 have h4 : stS ltR (L.take q.1 ++ R) = L.take q.1 ++ [R[0]!] := by
   have : L.take q.1 ++ R = L.take q.1 ++ [R[0]!] := by conv => lhs; rw [get1 h1]
   rw [this]
   exact zHc wkR (List.pairwise_append.2 ⟨hs.sublist (List.take_sublist _ _), List.pairwise_singleton _ _, fun x hx y hy => by rw [List.mem_singleton.1 hy]; exact j.lo x hx⟩)
 rw [h3, h4]; simp [shW]
def symH (L R : List Rec) : Nat := (L.length + R.length) / 2
structure SymP (N : Nat) (P L R S : List Rec) : Prop where
 l : L ≠ []
 r : R ≠ []
 n : L.length + R.length ≤ N
 t : P.length + L.length + R.length + S.length ≤ 1000000
 sl : Srt ltR L
 sr : Srt ltR R
 ml : ∀ x ∈ L, RSm x
 mr : ∀ x ∈ R, RSm x
def symS0 (L R : List Rec) : Nat := symH L R - R.length
def symR0 (L R : List Rec) : Nat := min (symH L R) L.length
structure SymJ (L R : List Rec) (q : Nat × Nat) : Prop where
 le : q.1 ≤ q.2
 a : symS0 L R ≤ q.1
 b : q.2 ≤ symR0 L R
 lo : q.1 = symS0 L R ∨ ltR R[symH L R - q.1]! L[q.1 - 1]! = false
 hi : q.2 = symR0 L R ∨ ltR R[symH L R - 1 - q.2]! L[q.2]! = true
 pl : L ≠ []
 pr : R ≠ []
theorem yEv {L R : List Rec} : symS0 L R ≤ symR0 L R := by unfold symS0 symR0 symH; omega
theorem zV4 {L R : List Rec} (hl : L ≠ []) (hr : R ≠ []) : SymJ L R (symS0 L R, symR0 L R) := ⟨yEv, Nat.le_refl _, Nat.le_refl _, .inl rfl, .inl rfl, hl, hr⟩
theorem yEw {L R : List Rec} {q : Nat × Nat} (j : SymJ L R q) (h : (q.1 : Int) < q.2) (hc : ¬ cmpR R[symH L R - 1 - (q.1 + q.2) / 2]! L[(q.1 + q.2) / 2]! < 0) : SymJ L R ((q.1 + q.2) / 2 + 1, q.2) := by
 have h1 := j.le; have h2 := j.a
 refine ⟨by simp only; omega, by simp only; omega, j.b, .inr ?_, j.hi, j.pl, j.pr⟩
 have h3 : ltR R[symH L R - 1 - (q.1 + q.2) / 2]! L[(q.1 + q.2) / 2]! = false := decide_eq_false hc
 simp only [Nat.add_sub_cancel]
 rw [show symH L R - ((q.1 + q.2) / 2 + 1) = symH L R - 1 - (q.1 + q.2) / 2 by omega]; exact h3
theorem yEx {L R : List Rec} {q : Nat × Nat} (j : SymJ L R q) (h : (q.1 : Int) < q.2) (hc : cmpR R[symH L R - 1 - (q.1 + q.2) / 2]! L[(q.1 + q.2) / 2]! < 0) : SymJ L R (q.1, (q.1 + q.2) / 2) := by
 have h1 := j.le; have h2 := j.a; have h3 := j.b
 exact ⟨by simp only; omega, j.a, by simp only; omega, j.lo, .inr (decide_eq_true hc), j.pl, j.pr⟩
section
variable {P L R S : List Rec} {q : Nat × Nat}
def symA (P L R S : List Rec) (q : Nat × Nat) : List Rec := P ++ L ++ R ++ S
def sL1 (L : List Rec) (q : Nat × Nat) : List Rec := L.take q.1
def sL2 (L : List Rec) (q : Nat × Nat) : List Rec := L.drop q.1
def sR1 (L R : List Rec) (q : Nat × Nat) : List Rec := R.take (symH L R - q.1)
def sR2 (L R : List Rec) (q : Nat × Nat) : List Rec := R.drop (symH L R - q.1)
def symB (P L R S : List Rec) (q : Nat × Nat) : List Rec := P ++ sL1 L q ++ sR1 L R q ++ sL2 L q ++ sR2 L R q ++ S
def symC (P L R S : List Rec) (q : Nat × Nat) : List Rec := P ++ stS ltR (sL1 L q ++ sR1 L R q) ++ sL2 L q ++ sR2 L R q ++ S
def symD (P L R S : List Rec) (q : Nat × Nat) : List Rec := P ++ stS ltR (sL1 L q ++ sR1 L R q) ++ stS ltR (sL2 L q ++ sR2 L R q) ++ S
theorem zMo : symA P L R S q = P ++ sL1 L q ++ sL2 L q ++ sR1 L R q ++ sR2 L R q ++ S := by
 have h1 : sL1 L q ++ sL2 L q = L := List.take_append_drop _ _
 have h2 : sR1 L R q ++ sR2 L R q = R := List.take_append_drop _ _
 rw [show P ++ sL1 L q ++ sL2 L q ++ sR1 L R q ++ sR2 L R q ++ S = P ++ (sL1 L q ++ sL2 L q) ++ (sR1 L R q ++ sR2 L R q) ++ S by simp only [List.append_assoc], h1, h2]; rfl
theorem sl1 (j : SymJ L R q) : (sL1 L q).length = q.1 := by
 have := j.le; have := j.b; unfold symR0 at this; unfold sL1; rw [List.length_take]; omega
theorem sl2 : (sL2 L q).length = L.length - q.1 := by unfold sL2; rw [List.length_drop]
theorem sr1 (j : SymJ L R q) : (sR1 L R q).length = symH L R - q.1 := by
 have := j.a; unfold symS0 at this; unfold sR1; rw [List.length_take]; omega
theorem sr2 : (sR2 L R q).length = R.length - (symH L R - q.1) := by unfold sR2; rw [List.length_drop]
theorem zCe (j : SymJ L R q) : q.1 ≤ symH L R ∧ q.1 ≤ L.length ∧ symH L R - q.1 ≤ R.length ∧ q.2 ≤ symH L R ∧ q.2 ≤ L.length := by
 have h1 := j.le; have h2 := j.a; have h3 := j.b; unfold symS0 at h2; unfold symR0 at h3; omega
theorem yHu (j : SymJ L R q) (h : ¬ (q.1 : Int) < L.length) : symA P L R S q = symB P L R S q := by
 have e : sL2 L q = [] := List.eq_nil_of_length_eq_zero (by rw [sl2]; omega)
 rw [zMo, symB, e]; simp only [List.append_nil]
theorem yHt (j : SymJ L R q) (h : ¬ 0 < symH L R - q.1) : symA P L R S q = symB P L R S q := by
 have e : sR1 L R q = [] := List.eq_nil_of_length_eq_zero (by rw [sr1 j]; omega)
 rw [zMo, symB, e]; simp only [List.append_nil]
variable {N : Nat}
theorem srt1 (p : SymP N P L R S) : Srt ltR (sL1 L q) := p.sl.sublist (List.take_sublist _ _)
theorem srt2 (p : SymP N P L R S) : Srt ltR (sL2 L q) := p.sl.sublist (List.drop_sublist _ _)
theorem srt3 (p : SymP N P L R S) : Srt ltR (sR1 L R q) := p.sr.sublist (List.take_sublist _ _)
theorem srt4 (p : SymP N P L R S) : Srt ltR (sR2 L R q) := p.sr.sublist (List.drop_sublist _ _)
theorem yHq (p : SymP N P L R S) (j : SymJ L R q) (h : ¬ 0 < q.1) : symB P L R S q = symC P L R S q := by
 have e : sL1 L q = [] := List.eq_nil_of_length_eq_zero (by rw [sl1 j]; omega)
 rw [symB, symC, e, List.nil_append, zHc wkR (srt3 p)]; simp only [List.append_nil]
theorem yHp (p : SymP N P L R S) (j : SymJ L R q) (h : ¬ (q.1 : Int) < symH L R) : symB P L R S q = symC P L R S q := by
 have e : sR1 L R q = [] := List.eq_nil_of_length_eq_zero (by rw [sr1 j]; omega)
 simp only [symB, symC, e, List.append_nil, zHc wkR (srt1 p)]
theorem yHo (p : SymP N P L R S) (j : SymJ L R q) (h : ¬ (q.1 : Int) < L.length) : symC P L R S q = symD P L R S q := by
 have e : sL2 L q = [] := List.eq_nil_of_length_eq_zero (by rw [sl2]; omega)
 rw [symC, symD, e, List.nil_append, zHc wkR (srt4 p)]; simp only [List.append_nil]
theorem yHn (p : SymP N P L R S) (j : SymJ L R q) (h : ¬ symH L R - q.1 < R.length) : symC P L R S q = symD P L R S q := by
 have e : sR2 L R q = [] := List.eq_nil_of_length_eq_zero (by rw [sr2]; omega)
 simp only [symC, symD, e, List.append_nil, zHc wkR (srt2 p)]
theorem yEu (p : SymP N P L R S) (j : SymJ L R q) (h : ¬ (q.1 : Int) < q.2) : symD P L R S q = P ++ stS ltR (L ++ R) ++ S := by
 obtain ⟨f1, f2, f3, f4, f5⟩ := zCe j
 have hq : q.2 = q.1 := by have := j.le; omega
 have hL : sL1 L q ++ sL2 L q = L := List.take_append_drop _ _
 have hR : sR1 L R q ++ sR2 L R q = R := List.take_append_drop _ _
 have hm := zK4 wkR (L1 := sL1 L q) (L2 := sL2 L q) (R1 := sR1 L R q) (R2 := sR2 L R q) (by rw [hL]; exact p.sl) (by rw [hR]; exact p.sr)
   (fun x hx y hy => by
     obtain ⟨i, hi, hk, rfl⟩ := zVx hx
     obtain ⟨k, hk1, hk2, rfl⟩ := zUz hy
     rcases j.hi with h1 | h1
     · rw [hq] at h1; unfold symR0 at h1; omega
     · rw [hq, getElem!_pos R _ (by omega), getElem!_pos L _ (by omega)] at h1
       exact wkR.le_lt (zIe wkR p.sr (i := k) (j := symH L R - 1 - q.1) (by omega) (by omega)) (wkR.lt_le h1 (zIe wkR p.sl (i := q.1) (j := i) hk hi)))
   (fun x hx y hy => by
     obtain ⟨i, hi, hk, rfl⟩ := zUz hx
     obtain ⟨k, hk1, hk2, rfl⟩ := zVx hy
     rcases j.lo with h1 | h1
     · unfold symS0 at h1; omega
     · rw [getElem!_pos R _ (by omega), getElem!_pos L _ (by omega)] at h1
       exact wkR.ntr (zIe wkR p.sr (i := symH L R - q.1) (j := k) hk2 hk1) (wkR.ntr h1 (zIe wkR p.sl (i := i) (j := q.1 - 1) (by omega) (by omega))))
 rw [hL, hR] at hm
 rw [hm, symD]; simp only [List.append_assoc]
end
noncomputable def FRot  := mkE (fun s : List Rec × List Rec × List Rec × List Rec => .own 0 0 (s.1 ++ s.2.1 ++ s.2.2.1 ++ s.2.2.2).length :: [.it .i64 s.1.length, .it .i64 ((s.1.length + s.2.1.length : Nat) : Int), .it .i64 ((s.1.length + s.2.1.length + s.2.2.1.length : Nat) : Int), .fn (.func 80) [] []]) (fun s => .row 16 true ((s.1 ++ s.2.1 ++ s.2.2.1 ++ s.2.2.2).map recE)) (fun s => RotP s.1 s.2.1 s.2.2.1 s.2.2.2) (fun s => (.tup [], [.row 16 true ((s.1 ++ s.2.2.1 ++ s.2.1 ++ s.2.2.2).map recE)]))
theorem yG1  {P A B S : List Rec} (hp : RotP P A B S) : FRot (.own 0 0 (P ++ A ++ B ++ S).length :: [.it .i64 P.length, .it .i64 ((P.length + A.length : Nat) : Int), .it .i64 ((P.length + A.length + B.length : Nat) : Int), .fn (.func 80) [] []]) [.row 16 true ((P ++ A ++ B ++ S).map recE)] = some (.tup [], [.row 16 true ((P ++ B ++ A ++ S).map recE)]) := by
 refine zIu (s := (P, A, B, S)) ?_ hp
 rintro ⟨P, A, B, S⟩ ⟨P', A', B', S'⟩ p1 p2 h1 h2
 simp only [List.cons.injEq, D.own.injEq, D.it.injEq, true_and, and_true, Int.ofNat_inj] at h1
 have h3 := zGh (Blk.row.inj h2).2.2
 simp only [List.length_append] at h1
 simp only [] at h3
 simp only [List.append_assoc] at h3
 obtain ⟨e1, h3⟩ := zGb h3 (by omega)
 obtain ⟨e2, h3⟩ := zGb h3 (by omega)
 obtain ⟨e3, e4⟩ := zGb h3 (by omega)
 subst e1; subst e2; subst e3; subst e4; rfl
theorem yG2  {P A B S l l' : List Rec} {tot nid : Nat} {rest : List D} (hp : RotP P A B S) (hl : l = P ++ A ++ B ++ S) (hl' : l' = P ++ B ++ A ++ S) (ht : tot = l.length) (hr : rest = [.it .i64 P.length, .it .i64 ((P.length + A.length : Nat) : Int), .it .i64 ((P.length + A.length + B.length : Nat) : Int), .fn (.func 80) [] []]) : zEN (FRot) (.own 0 0 tot :: rest) (ofHp [.row 16 true (l.map recE)]) nid = some (.tup [], ofHp [.row 16 true (l'.map recE)], nid) := by
 subst hr; subst ht; subst hl; subst hl'
 exact zYT rfl (yG1 hp)
noncomputable def FSym (N : Nat) := mkE (fun s : List Rec × List Rec × List Rec × List Rec => .own 0 0 (s.1 ++ s.2.1 ++ s.2.2.1 ++ s.2.2.2).length :: [.it .i64 s.1.length, .it .i64 ((s.1.length + s.2.1.length : Nat) : Int), .it .i64 ((s.1.length + s.2.1.length + s.2.2.1.length : Nat) : Int), .fn (.func 80) [] []]) (fun s => .row 16 true ((s.1 ++ s.2.1 ++ s.2.2.1 ++ s.2.2.2).map recE)) (fun s => SymP N s.1 s.2.1 s.2.2.1 s.2.2.2) (fun s => (.tup [], [.row 16 true ((s.1 ++ stS ltR (s.2.1 ++ s.2.2.1) ++ s.2.2.2).map recE)]))
theorem yGX {N : Nat} {P L R S : List Rec} (hp : SymP N P L R S) : FSym N (.own 0 0 (P ++ L ++ R ++ S).length :: [.it .i64 P.length, .it .i64 ((P.length + L.length : Nat) : Int), .it .i64 ((P.length + L.length + R.length : Nat) : Int), .fn (.func 80) [] []]) [.row 16 true ((P ++ L ++ R ++ S).map recE)] = some (.tup [], [.row 16 true ((P ++ stS ltR (L ++ R) ++ S).map recE)]) := by
 refine zIu (s := (P, L, R, S)) ?_ hp
 rintro ⟨P, L, R, S⟩ ⟨P', L', R', S'⟩ p1 p2 h1 h2
 simp only [List.cons.injEq, D.own.injEq, D.it.injEq, true_and, and_true, Int.ofNat_inj] at h1
 have h3 := zGh (Blk.row.inj h2).2.2
 simp only [List.length_append] at h1
 simp only [] at h3
 simp only [List.append_assoc] at h3
 obtain ⟨e1, h3⟩ := zGb h3 (by omega)
 obtain ⟨e2, h3⟩ := zGb h3 (by omega)
 obtain ⟨e3, e4⟩ := zGb h3 (by omega)
 subst e1; subst e2; subst e3; subst e4; rfl
theorem zRa {N : Nat} {P L R S l l' : List Rec} {tot nid : Nat} {rest : List D} (hp : SymP N P L R S) (hl : l = P ++ L ++ R ++ S) (hl' : l' = P ++ stS ltR (L ++ R) ++ S) (ht : tot = l.length) (hr : rest = [.it .i64 P.length, .it .i64 ((P.length + L.length : Nat) : Int), .it .i64 ((P.length + L.length + R.length : Nat) : Int), .fn (.func 80) [] []]) : zEN (FSym N) (.own 0 0 tot :: rest) (ofHp [.row 16 true (l.map recE)]) nid = some (.tup [], ofHp [.row 16 true (l'.map recE)], nid) := by
 subst hr; subst ht; subst hl; subst hl'
 exact zYT rfl (yGX hp)
def symT (P L R S : List Rec) : Nat := (P ++ L ++ R ++ S).length
theorem zHN (P L R S : List Rec) : symT P L R S = P.length + L.length + R.length + S.length := by simp [symT]; omega
section
variable {N : Nat} {P L R S : List Rec} {q : Nat × Nat} {nid : Nat}
theorem yCZ (p : SymP (N + 1) P L R S) (j : SymJ L R q) (h1 : (q.1 : Int) < L.length) (h2 : 0 < symH L R - q.1) : zEN FRot [.own 0 0 (symT P L R S), .it .i64 ((P.length + q.1 : Nat) : Int), .it .i64 ((P.length + L.length : Nat) : Int), .it .i64 ((P.length + L.length + (symH L R - q.1) : Nat) : Int), .fn (.func 80) [] []] (ofHp [.row 16 true ((symA P L R S q).map recE)]) nid = some (.tup [], ofHp [.row 16 true ((symB P L R S q).map recE)], nid) := by
 have a1 := sl1 j; have a2 := sl2 (L := L) (q := q); have a3 := sr1 j; have a4 := sr2 (L := L) (R := R) (q := q); have f := zCe j; have ht := p.t
 refine yG2 (P := P ++ sL1 L q) (A := sL2 L q) (B := sR1 L R q) (S := sR2 L R q ++ S) ⟨List.ne_nil_of_length_pos (by omega), List.ne_nil_of_length_pos (by omega), ?_⟩ ?_ ?_ ?_ ?_
 · simp only [List.length_append]; omega
 · rw [zMo]; simp only [List.append_assoc]
 · simp only [symB, List.append_assoc]
 · rfl
 · simp only [List.length_append, List.cons.injEq, D.it.injEq, true_and, and_true, Int.ofNat_inj]; omega
theorem yAh (p : SymP (N + 1) P L R S) (j : SymJ L R q) (h1 : 0 < q.1) (h2 : (q.1 : Int) < symH L R) : zEN (FSym N) [.own 0 0 (symT P L R S), .it .i64 P.length, .it .i64 ((P.length + q.1 : Nat) : Int), .it .i64 ((P.length + symH L R : Nat) : Int), .fn (.func 80) [] []] (ofHp [.row 16 true ((symB P L R S q).map recE)]) nid = some (.tup [], ofHp [.row 16 true ((symC P L R S q).map recE)], nid) := by
 have a1 := sl1 j; have a2 := sl2 (L := L) (q := q); have a3 := sr1 j; have a4 := sr2 (L := L) (R := R) (q := q); have f := zCe j; have ht := p.t; have hn := p.n
 have hL := zCa p.l; have hR := zCa p.r
 have hh : symH L R = (L.length + R.length) / 2 := rfl
 refine zRa (P := P) (L := sL1 L q) (R := sR1 L R q) (S := sL2 L q ++ sR2 L R q ++ S) ⟨List.ne_nil_of_length_pos (by omega), List.ne_nil_of_length_pos (by omega), by omega, ?_, srt1 p, srt3 p, fun x hx => p.ml x (List.mem_of_mem_take hx), fun x hx => p.mr x (List.mem_of_mem_take hx)⟩ ?_ ?_ ?_ ?_
 · simp only [List.length_append]; omega
 · simp only [symB, List.append_assoc]
 · simp only [symC, List.append_assoc]
 · simp only [symT, symB, List.length_append]; omega
 · simp only [List.length_append, List.cons.injEq, D.it.injEq, true_and, and_true, Int.ofNat_inj]; omega
theorem yAg (p : SymP (N + 1) P L R S) (j : SymJ L R q) (h1 : (q.1 : Int) < L.length) (h2 : symH L R - q.1 < R.length) : zEN (FSym N) [.own 0 0 (symT P L R S), .it .i64 ((P.length + symH L R : Nat) : Int), .it .i64 ((P.length + L.length + (symH L R - q.1) : Nat) : Int), .it .i64 ((P.length + L.length + R.length : Nat) : Int), .fn (.func 80) [] []] (ofHp [.row 16 true ((symC P L R S q).map recE)]) nid = some (.tup [], ofHp [.row 16 true ((symD P L R S q).map recE)], nid) := by
 have a1 := sl1 j; have a2 := sl2 (L := L) (q := q); have a3 := sr1 j; have a4 := sr2 (L := L) (R := R) (q := q); have f := zCe j; have ht := p.t; have hn := p.n
 have hL := zCa p.l; have hR := zCa p.r
 have hh : symH L R = (L.length + R.length) / 2 := rfl
 have b1 : (stS ltR (sL1 L q ++ sR1 L R q)).length = q.1 + (symH L R - q.1) := by rw [zEz, List.length_append]; omega
 refine zRa (P := P ++ stS ltR (sL1 L q ++ sR1 L R q)) (L := sL2 L q) (R := sR2 L R q) (S := S) ⟨List.ne_nil_of_length_pos (by omega), List.ne_nil_of_length_pos (by omega), by omega, ?_, srt2 p, srt4 p, fun x hx => p.ml x (List.mem_of_mem_drop hx), fun x hx => p.mr x (List.mem_of_mem_drop hx)⟩ ?_ ?_ ?_ ?_
 · simp only [List.length_append]; omega
 · simp only [symC, List.append_assoc]
 · simp only [symD, List.append_assoc]
 · simp only [symT, symC, List.length_append]; omega
 · simp only [List.length_append, List.cons.injEq, D.it.injEq, true_and, and_true, Int.ofNat_inj]; omega
theorem yHs (h : (L.length : Int) = 1) : symA P L R S q = shW P R S L[0]! 0 := by
 unfold symA shW; conv => lhs; rw [get1 h]
 simp
theorem yHr (h : (R.length : Int) = 1) : symA P L R S q = shW P L S R[0]! L.length := by
 unfold symA shW; conv => lhs; rw [get1 h]
 simp
theorem half {i j : Nat} (h : i + j ≤ 10000000) : IntKind.i64.wrap ((IntKind.u64.wrap (IntKind.i64.wrap ((i : Int) + (j : Int)))).fdiv (2 ^ min 1 IntKind.u64.bits)) = (((i + j) / 2 : Nat) : Int) := by
 have e : IntKind.u64.bits = 64 := rfl
 rw [e, wrap64 (n := (i : Int) + (j : Int)) (by omega) (by omega), zCs, Int.fdiv_eq_ediv_of_nonneg _ (by decide)]
 rw [show min 1 64 = 1 from rfl, wrap64 (by omega) (by omega)]; omega
end

section
variable (N : Nat)
theorem zMX (cx : Cx) (hP : cx.P = Tryz.prog) (hbs : cx.bs = 1) (h80 : cx.orc 80 = some zG6) (xn182 : cx.orc 182 = none) (xe182 : cx.ext 182 = none) (xf182 : cx.eff 182 = some FRot) (xn162 : cx.orc 162 = none) (xe162 : cx.ext 162 = none) (xf162 : cx.eff 162 = some (FSym N)) (r80 : cx.rd.contains 80 = true) (hk3 : cx.kp 3 = some [0, 1, 4, 10, 11]) (hk9 : cx.kp 9 = some [0, 10, 13]) (hk15 : cx.kp 15 = some [0, 2, 4, 14, 15]) (hk21 : cx.kp 21 = some [0, 14, 17]) (hk33 : cx.kp 33 = some [0, 1, 2, 3, 4, 18, 19, 20, 21, 22]) (P L R S : List Rec) (hl : SymP (N + 1) P L R S) : zFl cx Tryz.f162 [.own 0 0 (symT P L R S), .it .i64 P.length, .it .i64 ((P.length + L.length : Nat) : Int), .it .i64 ((P.length + L.length + R.length : Nat) : Int), .fn (.func 80) [] []] [.row 16 true ((P ++ L ++ R ++ S).map recE)] = some ((.tup [], [.row 16 true ((P ++ stS ltR (L ++ R) ++ S).map recE)])) := by
 have c80 := zAa h80
 have d80 := zAh r80 h80
 have cf182 := fun H nid l => (show zDD cx 182 l H nid = _ from zCD xn182 xe182 xf182)
 have cf162 := fun H nid l => (show zDD cx 162 l H nid = _ from zCD xn162 xe162 xf162)
 have hml :  IntKind.i64.wrap (((P.length + L.length : Nat) : Int) - (P.length : Int)) = (L.length : Int) := by have hN := hl.t; have hh : symH L R = (L.length + R.length) / 2 := rfl;  rw [wrap64 (by omega) (by omega)]; omega
 have hmr :  IntKind.i64.wrap (((P.length + L.length + R.length : Nat) : Int) - ((P.length + L.length : Nat) : Int)) = (R.length : Int) := by have hN := hl.t; have hh : symH L R = (L.length + R.length) / 2 := rfl;  rw [wrap64 (by omega) (by omega)]; omega
 have hmA : ∀ q, SrA R L[0]! q → IntKind.i64.wrap ((IntKind.u64.wrap (IntKind.i64.wrap (((P.length + L.length + q.1 : Nat) : Int) + ((P.length + L.length + q.2 : Nat) : Int)))).fdiv (2 ^ min 1 IntKind.u64.bits)) = ((P.length + L.length + ((q.1 + q.2) / 2) : Nat) : Int) := fun q c0 => by have hN := hl.t; have hh : symH L R = (L.length + R.length) / 2 := rfl; have := c0.le; have := c0.n; rw [half (by omega)]; congr 1; omega
 have hmB : ∀ q, SrB L R[0]! q → IntKind.i64.wrap ((IntKind.u64.wrap (IntKind.i64.wrap (((P.length + q.1 : Nat) : Int) + ((P.length + q.2 : Nat) : Int)))).fdiv (2 ^ min 1 IntKind.u64.bits)) = ((P.length + ((q.1 + q.2) / 2) : Nat) : Int) := fun q c0 => by have hN := hl.t; have hh : symH L R = (L.length + R.length) / 2 := rfl; have := c0.le; have := c0.n; rw [half (by omega)]; congr 1; omega
 have hmJ : ∀ q, SymJ L R q → IntKind.i64.wrap ((IntKind.u64.wrap (IntKind.i64.wrap (((P.length + q.1 : Nat) : Int) + ((P.length + q.2 : Nat) : Int)))).fdiv (2 ^ min 1 IntKind.u64.bits)) = ((P.length + ((q.1 + q.2) / 2) : Nat) : Int) := fun q c0 => by have hN := hl.t; have hh : symH L R = (L.length + R.length) / 2 := rfl; have := zCe c0; rw [half (by omega)]; congr 1; omega
 have hmid : IntKind.i64.wrap ((IntKind.u64.wrap (IntKind.i64.wrap ((P.length : Int) + ((P.length + L.length + R.length : Nat) : Int)))).fdiv (2 ^ min 1 IntKind.u64.bits)) = ((P.length + symH L R : Nat) : Int) := by have hN := hl.t; have hh : symH L R = (L.length + R.length) / 2 := rfl; rw [half (by omega)]; congr 1; omega
 have hnn :  IntKind.i64.wrap (((P.length + symH L R : Nat) : Int) + ((P.length + L.length : Nat) : Int)) = ((P.length + symH L R + (P.length + L.length) : Nat) : Int) := by have hN := hl.t; have hh : symH L R = (L.length + R.length) / 2 := rfl;  rw [wrap64 (by omega) (by omega)]; omega
 have hpp :  IntKind.i64.wrap (((P.length + symH L R + (P.length + L.length) : Nat) : Int) - 1) = ((P.length + symH L R + (P.length + L.length) - 1 : Nat) : Int) := by have hN := hl.t; have hh : symH L R = (L.length + R.length) / 2 := rfl; have := zCa hl.l; rw [wrap64 (by omega) (by omega)]; omega
 have hst : (symH L R : Int) < L.length →  IntKind.i64.wrap (((P.length + symH L R + (P.length + L.length) : Nat) : Int) - ((P.length + L.length + R.length : Nat) : Int)) = ((P.length + symS0 L R : Nat) : Int) := fun c0 => by have hN := hl.t; have hh : symH L R = (L.length + R.length) / 2 := rfl; unfold symS0; rw [wrap64 (by omega) (by omega)]; omega
 have hpc : ∀ q, SymJ L R q → (q.1 : Int) < q.2 →  IntKind.i64.wrap (((P.length + symH L R + (P.length + L.length) - 1 : Nat) : Int) - ((P.length + ((q.1 + q.2) / 2) : Nat) : Int)) = ((P.length + L.length + (symH L R - 1 - ((q.1 + q.2) / 2)) : Nat) : Int) := fun q c0 c1 => by have hN := hl.t; have hh : symH L R = (L.length + R.length) / 2 := rfl; have := zCe c0; rw [wrap64 (by omega) (by omega)]; omega
 have hen : ∀ q, SymJ L R q →  IntKind.i64.wrap (((P.length + symH L R + (P.length + L.length) : Nat) : Int) - ((P.length + q.1 : Nat) : Int)) = ((P.length + L.length + (symH L R - q.1) : Nat) : Int) := fun q c0 => by have hN := hl.t; have hh : symH L R = (L.length + R.length) / 2 := rfl; have := zCe c0; rw [wrap64 (by omega) (by omega)]; omega
 have haA : ∀ q, SrA R L[0]! q →  IntKind.i64.wrap (((P.length + L.length + ((q.1 + q.2) / 2) : Nat) : Int) + 1) = ((P.length + L.length + ((q.1 + q.2) / 2 + 1) : Nat) : Int) := fun q c0 => by have hN := hl.t; have hh : symH L R = (L.length + R.length) / 2 := rfl; have := c0.le; have := c0.n; rw [wrap64 (by omega) (by omega)]; omega
 have haB : ∀ q, SrB L R[0]! q →  IntKind.i64.wrap (((P.length + ((q.1 + q.2) / 2) : Nat) : Int) + 1) = ((P.length + ((q.1 + q.2) / 2 + 1) : Nat) : Int) := fun q c0 => by have hN := hl.t; have hh : symH L R = (L.length + R.length) / 2 := rfl; have := c0.le; have := c0.n; rw [wrap64 (by omega) (by omega)]; omega
 have haJ : ∀ q, SymJ L R q →  IntKind.i64.wrap (((P.length + ((q.1 + q.2) / 2) : Nat) : Int) + 1) = ((P.length + ((q.1 + q.2) / 2 + 1) : Nat) : Int) := fun q c0 => by have hN := hl.t; have hh : symH L R = (L.length + R.length) / 2 := rfl; have := zCe c0; rw [wrap64 (by omega) (by omega)]; omega
 have hi1 : ∀ q, (L.length : Int) = 1 → SrA R L[0]! q →  IntKind.i64.wrap (((P.length + L.length + q.1 : Nat) : Int) - 1) = ((P.length + q.1 : Nat) : Int) := fun q c0 c1 => by have hN := hl.t; have hh : symH L R = (L.length + R.length) / 2 := rfl; have := c1.le; have := c1.n; rw [wrap64 (by omega) (by omega)]; omega
 have hk1 : ∀ t, t < R.length →  IntKind.i64.wrap (((P.length + t : Nat) : Int) + 1) = ((P.length + (t + 1) : Nat) : Int) := fun t c0 => by have hN := hl.t; have hh : symH L R = (L.length + R.length) / 2 := rfl;  rw [wrap64 (by omega) (by omega)]; omega
 have hk2 : ∀ t, 0 < t → t ≤ L.length →  IntKind.i64.wrap (((P.length + t : Nat) : Int) - 1) = ((P.length + t - 1 : Nat) : Int) := fun t c0 c1 => by have hN := hl.t; have hh : symH L R = (L.length + R.length) / 2 := rfl;  rw [wrap64 (by omega) (by omega)]; omega
 have hltA : ∀ q : Nat × Nat, (((P.length + L.length + q.1 : Nat) : Int) < ((P.length + L.length + q.2 : Nat) : Int)) = ((q.1 : Int) < q.2) := fun q => by simp only [eq_iff_iff]; omega
 have hltB : ∀ q : Nat × Nat, (((P.length + q.1 : Nat) : Int) < ((P.length + q.2 : Nat) : Int)) = ((q.1 : Int) < q.2) := fun q => by simp only [eq_iff_iff]; omega
 have hltH : (((P.length + symH L R : Nat) : Int) < ((P.length + L.length : Nat) : Int)) = ((symH L R : Int) < L.length) := by simp only [eq_iff_iff]; omega
 have hl9 : ∀ (q : Nat × Nat) (t : Nat), SrA R L[0]! q → (((P.length + t : Nat) : Int) < ((P.length + q.1 : Nat) : Int)) = ((t : Int) < q.1 ∧ t < R.length) := fun q t j => by have := j.le; have := j.n; simp only [eq_iff_iff]; omega
 have hl21 : ∀ (q : Nat × Nat) (t : Nat), SrB L R[0]! q → (((P.length + q.1 : Nat) : Int) < ((P.length + t : Nat) : Int)) = ((q.1 : Int) < t ∧ 0 < t) := fun q t j => by simp only [eq_iff_iff]; omega
 have hc1 : ∀ q, SymJ L R q → (((P.length + q.1 : Nat) : Int) < ((P.length + L.length : Nat) : Int)) = ((q.1 : Int) < L.length) := fun q j => by simp only [eq_iff_iff]; omega
 have hc2 : ∀ q, SymJ L R q → (((P.length + L.length : Nat) : Int) < ((P.length + L.length + (symH L R - q.1) : Nat) : Int)) = (0 < symH L R - q.1) := fun q j => by simp only [eq_iff_iff]; omega
 have hc3 : ∀ q, SymJ L R q → ((P.length : Int) < ((P.length + q.1 : Nat) : Int)) = (0 < q.1) := fun q j => by simp only [eq_iff_iff]; omega
 have hc4 : ∀ q, SymJ L R q → (((P.length + q.1 : Nat) : Int) < ((P.length + symH L R : Nat) : Int)) = ((q.1 : Int) < symH L R) := fun q j => by simp only [eq_iff_iff]; omega
 have hc5 : ∀ q, SymJ L R q → (((P.length + symH L R : Nat) : Int) < ((P.length + L.length + (symH L R - q.1) : Nat) : Int)) = ((q.1 : Int) < L.length) := fun q j => by have := zCe j; simp only [eq_iff_iff]; omega
 have hc6 : ∀ q, SymJ L R q → (((P.length + L.length + (symH L R - q.1) : Nat) : Int) < ((P.length + L.length + R.length : Nat) : Int)) = (symH L R - q.1 < R.length) := fun q j => by simp only [eq_iff_iff]; omega
 have hbA : ∀ q, SrA R L[0]! q → (q.1 : Int) < q.2 →  (((P.length + L.length + ((q.1 + q.2) / 2) : Nat) : Int) < (symT P L R S : Int)) = True := fun q c0 c1 => by have hN := hl.t; have hh : symH L R = (L.length + R.length) / 2 := rfl; have hT := zHN P L R S; have := zCa hl.l; have := zCa hl.r; have := c0.n; simp only [eq_iff_iff, iff_true]; omega
 have hbB : ∀ q, SrB L R[0]! q → (q.1 : Int) < q.2 →  (((P.length + ((q.1 + q.2) / 2) : Nat) : Int) < (symT P L R S : Int)) = True := fun q c0 c1 => by have hN := hl.t; have hh : symH L R = (L.length + R.length) / 2 := rfl; have hT := zHN P L R S; have := zCa hl.l; have := zCa hl.r; have := c0.n; simp only [eq_iff_iff, iff_true]; omega
 have hbJ : ∀ q, SymJ L R q → (q.1 : Int) < q.2 →  (((P.length + ((q.1 + q.2) / 2) : Nat) : Int) < (symT P L R S : Int)) = True := fun q c0 c1 => by have hN := hl.t; have hh : symH L R = (L.length + R.length) / 2 := rfl; have hT := zHN P L R S; have := zCa hl.l; have := zCa hl.r; have := zCe c0; simp only [eq_iff_iff, iff_true]; omega
 have hbK : ∀ q, SymJ L R q → (q.1 : Int) < q.2 →  (((P.length + L.length + (symH L R - 1 - ((q.1 + q.2) / 2)) : Nat) : Int) < (symT P L R S : Int)) = True := fun q c0 c1 => by have hN := hl.t; have hh : symH L R = (L.length + R.length) / 2 := rfl; have hT := zHN P L R S; have := zCa hl.l; have := zCa hl.r; have := zCe c0; have := c0.a; unfold symS0 at this; simp only [eq_iff_iff, iff_true]; omega
 have hb0 : ((P.length : Int) < (symT P L R S : Int)) = True := by have hT := zHN P L R S; have := zCa hl.l; simp only [eq_iff_iff, iff_true]; omega
 have hbm : (((P.length + L.length : Nat) : Int) < (symT P L R S : Int)) = True := by have hN := hl.t; have hh : symH L R = (L.length + R.length) / 2 := rfl; have hT := zHN P L R S; have := zCa hl.l; have := zCa hl.r;  simp only [eq_iff_iff, iff_true]; omega
 have hb9 : ∀ t, t < R.length →  (((P.length + t : Nat) : Int) < (symT P L R S : Int)) = True := fun t c0 => by have hN := hl.t; have hh : symH L R = (L.length + R.length) / 2 := rfl; have hT := zHN P L R S; have := zCa hl.l; have := zCa hl.r;  simp only [eq_iff_iff, iff_true]; omega
 have hb10 : ∀ t, t < R.length →  (((P.length + (t + 1) : Nat) : Int) < (symT P L R S : Int)) = True := fun t c0 => by have hN := hl.t; have hh : symH L R = (L.length + R.length) / 2 := rfl; have hT := zHN P L R S; have := zCa hl.l; have := zCa hl.r;  simp only [eq_iff_iff, iff_true]; omega
 have hb21 : ∀ t, t ≤ L.length →  (((P.length + t : Nat) : Int) < (symT P L R S : Int)) = True := fun t c0 => by have hN := hl.t; have hh : symH L R = (L.length + R.length) / 2 := rfl; have hT := zHN P L R S; have := zCa hl.l; have := zCa hl.r;  simp only [eq_iff_iff, iff_true]; omega
 have hb22 : ∀ t, 0 < t → t ≤ L.length →  (((P.length + t - 1 : Nat) : Int) < (symT P L R S : Int)) = True := fun t c0 c1 => by have hN := hl.t; have hh : symH L R = (L.length + R.length) / 2 := rfl; have hT := zHN P L R S; have := zCa hl.l; have := zCa hl.r;  simp only [eq_iff_iff, iff_true]; omega
 have hz1 : ∀ k : Nat, ((k : Int) < 0) = False := fun k => by simp
 have hz2 : ∀ k : Nat, (0 ≤ (k : Int)) = True := fun k => by simp
 have hr0 : ∀ q,  ((symA P L R S q).map recE)[P.length]? = some (recE L[0]!) := fun q  => at_P (i := 0) (by have := zCa hl.l; omega)
 have hrm : ∀ q,  ((symA P L R S q).map recE)[P.length + L.length]? = some (recE R[0]!) := fun q  => at_R (i := 0) (by have := zCa hl.r; omega)
 have hrA : ∀ q, SrA R L[0]! q → (q.1 : Int) < q.2 →  ((symA P L R S q).map recE)[P.length + L.length + ((q.1 + q.2) / 2)]? = some (recE R[(q.1 + q.2) / 2]!) := fun q c0 c1 => at_R (by have := c0.n; omega)
 have hrB : ∀ q, SrB L R[0]! q → (q.1 : Int) < q.2 →  ((symA P L R S q).map recE)[P.length + ((q.1 + q.2) / 2)]? = some (recE L[(q.1 + q.2) / 2]!) := fun q c0 c1 => at_P (by have := c0.n; omega)
 have hrJ : ∀ q, SymJ L R q → (q.1 : Int) < q.2 →  ((symA P L R S q).map recE)[P.length + ((q.1 + q.2) / 2)]? = some (recE L[(q.1 + q.2) / 2]!) := fun q c0 c1 => at_P (by have := zCe c0; omega)
 have hrK : ∀ q, SymJ L R q → (q.1 : Int) < q.2 →  ((symA P L R S q).map recE)[P.length + L.length + (symH L R - 1 - ((q.1 + q.2) / 2))]? = some (recE R[symH L R - 1 - ((q.1 + q.2) / 2)]!) := fun q c0 c1 => at_R (by have := zCe c0; have := c0.a; unfold symS0 at this; have hh : symH L R = (L.length + R.length) / 2 := rfl; have := zCa hl.l; have := zCa hl.r; omega)
 have hcA : ∀ q : Nat × Nat, SrA R L[0]! q → (q.1 : Int) < q.2 →  zG6 [recE R[(q.1 + q.2) / 2]!, recE L[0]!] = some (Res.flat (.it .i64 (cmpR R[(q.1 + q.2) / 2]! L[0]!))) := fun q c0 c1 => zCE ⟨hl.mr _ (zBO (by have := c0.n; omega)), hl.ml _ (zBO (by have := zCa hl.l; omega))⟩
 have hcB : ∀ q : Nat × Nat, SrB L R[0]! q → (q.1 : Int) < q.2 →  zG6 [recE R[0]!, recE L[(q.1 + q.2) / 2]!] = some (Res.flat (.it .i64 (cmpR R[0]! L[(q.1 + q.2) / 2]!))) := fun q c0 c1 => zCE ⟨hl.mr _ (zBO (by have := zCa hl.r; omega)), hl.ml _ (zBO (by have := c0.n; omega))⟩
 have hcJ : ∀ q : Nat × Nat, SymJ L R q → (q.1 : Int) < q.2 →  zG6 [recE R[symH L R - 1 - ((q.1 + q.2) / 2)]!, recE L[(q.1 + q.2) / 2]!] = some (Res.flat (.it .i64 (cmpR R[symH L R - 1 - ((q.1 + q.2) / 2)]! L[(q.1 + q.2) / 2]!))) := fun q c0 c1 => zCE ⟨hl.mr _ (zBO (by have := zCe c0; have := c0.a; unfold symS0 at this; have hh : symH L R = (L.length + R.length) / 2 := rfl; have := zCa hl.l; have := zCa hl.r; omega)), hl.ml _ (zBO (by have := zCe c0; omega))⟩
 have hAB1 : ∀ q, SymJ L R q → ¬ (q.1 : Int) < L.length → symA P L R S q = symB P L R S q := fun q j h => yHu j h
 have hAB2 : ∀ q, SymJ L R q → ¬ 0 < symH L R - q.1 → symA P L R S q = symB P L R S q := fun q j h => yHt j h
 have hBC1 : ∀ q, SymJ L R q → ¬ 0 < q.1 → symB P L R S q = symC P L R S q := fun q j h => yHq hl j h
 have hBC2 : ∀ q, SymJ L R q → ¬ (q.1 : Int) < symH L R → symB P L R S q = symC P L R S q := fun q j h => yHp hl j h
 have hCD1 : ∀ q, SymJ L R q → ¬ (q.1 : Int) < L.length → symC P L R S q = symD P L R S q := fun q j h => yHo hl j h
 have hCD2 : ∀ q, SymJ L R q → ¬ symH L R - q.1 < R.length → symC P L R S q = symD P L R S q := fun q j h => yHn hl j h
 have hdy := fun {nx bef i : Nat} {env : Nat → D} {H : Hp} {dst : Option Tmp} {ty : TypeId} {pos : String} {after : Array Edge} {gd : Option (Nat × Bool)} {k : Tmp} {args : Array Operand} {ts : Array TypeId} (hk : env k = .fn (.func 80) [] []) (hr : zAD nx bef i H (refs (env k) ++ zAv (args.toList.map (ev env))) = true) (hi : immL (args.toList.map (ev env)) = true) => zNv (cx := cx) (nx := nx) (bef := bef) (i := i) (env := env) (H := H) (dst := dst) (ty := ty) (pos := pos) (after := after) (gd := gd) (k := k) (args := args) (ts := ts) hk h80 hr hi
 refine zJ7 (rs := []) rfl hbs rfl ?_
 repeat' first
   | (refine zBz (σ := Nat × Nat) (fun q => [.own 0 0 (symT P L R S), .it .i64 P.length, .fn (.func 80) [] [], .it .i64 ((P.length + L.length + q.1 : Nat) : Int), .it .i64 ((P.length + L.length + q.2 : Nat) : Int)]) (fun q => [.row 16 true ((symA P L R S q).map recE)]) (fun q => SrA R L[0]! q) (fun q => q.2 - q.1) [0, 1, 4, 10, 11] hbs (by exact hk3) (fun q jq b hb => by simp only [List.mem_singleton] at hb; subst hb; exact zCt _) (fun q jq => ?_) (s := (0, R.length)) [0] ?_ ?_ ?_ ?_ ?_ ?_)
   | (refine zBz (σ := Nat) (fun t => [.own 0 0 (symT P L R S), .it .i64 ((P.length + L.length + q.1 : Nat) : Int), .it .i64 ((P.length + t : Nat) : Int)]) (fun t => [.row 16 true ((shW P R S L[0]! t).map recE)]) (fun t => t ≤ q.1) (fun t => q.1 - t) [0, 10, 13] hbs (by exact hk9) (fun q jq b hb => by simp only [List.mem_singleton] at hb; subst hb; exact zCt _) (fun t jt => ?_) (s := 0) [0] ?_ ?_ ?_ ?_ ?_ ?_)
   | (refine zBz (σ := Nat × Nat) (fun q => [.own 0 0 (symT P L R S), .it .i64 ((P.length + L.length : Nat) : Int), .fn (.func 80) [] [], .it .i64 ((P.length + q.1 : Nat) : Int), .it .i64 ((P.length + q.2 : Nat) : Int)]) (fun q => [.row 16 true ((symA P L R S q).map recE)]) (fun q => SrB L R[0]! q) (fun q => q.2 - q.1) [0, 2, 4, 14, 15] hbs (by exact hk15) (fun q jq b hb => by simp only [List.mem_singleton] at hb; subst hb; exact zCt _) (fun q jq => ?_) (s := (0, L.length)) [0] ?_ ?_ ?_ ?_ ?_ ?_)
   | (refine zBz (σ := Nat) (fun t => [.own 0 0 (symT P L R S), .it .i64 ((P.length + q.1 : Nat) : Int), .it .i64 ((P.length + t : Nat) : Int)]) (fun t => [.row 16 true ((shW P L S R[0]! t).map recE)]) (fun t => q.1 ≤ t ∧ t ≤ L.length) (fun t => t) [0, 14, 17] hbs (by exact hk21) (fun q jq b hb => by simp only [List.mem_singleton] at hb; subst hb; exact zCt _) (fun t jt => ?_) (s := L.length) [0] ?_ ?_ ?_ ?_ ?_ ?_)
   | (refine zBz (σ := Nat × Nat) (fun q => [.own 0 0 (symT P L R S), .it .i64 P.length, .it .i64 ((P.length + L.length : Nat) : Int), .it .i64 ((P.length + L.length + R.length : Nat) : Int), .fn (.func 80) [] [], .it .i64 ((P.length + symH L R : Nat) : Int), .it .i64 ((P.length + symH L R + (P.length + L.length) : Nat) : Int), .it .i64 ((P.length + q.1 : Nat) : Int), .it .i64 ((P.length + q.2 : Nat) : Int), .it .i64 ((P.length + symH L R + (P.length + L.length) - 1 : Nat) : Int)]) (fun q => [.row 16 true ((symA P L R S q).map recE)]) (fun q => SymJ L R q) (fun q => q.2 - q.1) [0, 1, 2, 3, 4, 18, 19, 20, 21, 22] hbs (by exact hk33) (fun q jq b hb => by simp only [List.mem_singleton] at hb; subst hb; exact zCt _) (fun q jq => ?_) (s := (symS0 L R, symR0 L R)) [0] ?_ ?_ ?_ ?_ ?_ ?_)
   | (refine zAR (fun h => ?_) (fun h => ?_) <;> (try simp only [cN] at h))
   | (refine zAN ?_ ?_)
   | simp (config := { decide := true }) only [↓cD, cU, cQ, cP, cB, zAJ, unD, zAf, zAd, idx, reduceCtorEq, ↓reduceIte, ofV, ofC, zAq, Nat.reduceEqDiff, zAG, cG, implies_true, forall_const, immL, immD, Res.flat, ren, renL, Int.reduceEq, Int.reduceLT, Int.reduceLE, Int.reduceNe, deref, ldD, zAF, zAk, zAI, zAs, cC, cS, refs, zAD, okId, List.all_nil, List.all_cons, Nat.reduceMul, Nat.reduceAdd, Nat.reduceLeDiff, zAv, c80, d80, zAo, zAp, zCE, ↓zAM, ↓zAQ, ↓zAL, ↓zAP, ↓zAK, ↓zAO, cV, cT, cF, cW, borT, borM, zAm, Res.via, zAu, zAb, refsB, Nat.reduceLT, Nat.reduceSub, Nat.reduceLeDiff, Nat.reduceMul, Nat.reduceAdd, Int.reduceToNat, appK, zAr, zAc, borL, zAl, zAn, zAE, cO, List.replicate, zAC, ofHp, ixOf, cS, refs, zAD, okId, List.all_nil, List.all_cons, Nat.reduceMul, Nat.reduceAdd, Nat.reduceLeDiff, zAv, zDH, zJk, updL, zKi, yCZ hl, yAh hl, yAg hl, yDJ, yEP, zUI, zXP, yBt, zUH, zXO, yBs, hml, hmr, hmA, hmB, hmJ, hmid, hnn, hpp, hst, hpc, hen, haA, haB, haJ, hi1, hk1, hk2, hltA, hltB, hltH, hl9, hl21, hc1, hc2, hc3, hc4, hc5, hc6, hbA, hbB, hbJ, hbK, hb0, hbm, hb9, hb10, hb21, hb22, hz1, hz2, hr0, hrm, hrA, hrB, hrJ, hrK, hcA, hcB, hcJ, hAB1, hAB2, hBC1, hBC2, hCD1, hCD2, hdy, hP, *]
 all_goals first
   | rfl
   | omega
   | (refine ⟨[0], ((q.1 + q.2) / 2 + 1, q.2), ?_, ?_, ?_, ?_, ?_, yHH hl.sr jq ‹_› ‹_›, by simp only; omega⟩ <;> rfl)
   | (refine ⟨[0], (q.1, (q.1 + q.2) / 2), ?_, ?_, ?_, ?_, ?_, yHI hl.sr jq ‹_› ‹_›, by simp only; omega⟩ <;> rfl)
   | (refine ⟨[0], ((q.1 + q.2) / 2 + 1, q.2), ?_, ?_, ?_, ?_, ?_, yHF hl.sl jq ‹_› ‹_›, by simp only; omega⟩ <;> rfl)
   | (refine ⟨[0], (q.1, (q.1 + q.2) / 2), ?_, ?_, ?_, ?_, ?_, yHG hl.sl jq ‹_› ‹_›, by simp only; omega⟩ <;> rfl)
   | (refine ⟨[0], ((q.1 + q.2) / 2 + 1, q.2), ?_, ?_, ?_, ?_, ?_, yEw jq ‹_› ‹_›, by simp only; omega⟩ <;> rfl)
   | (refine ⟨[0], (q.1, (q.1 + q.2) / 2), ?_, ?_, ?_, ?_, ?_, yEx jq ‹_› ‹_›, by simp only; omega⟩ <;> rfl)
   | (refine ⟨[0], t + 1, ?_, ?_, ?_, ?_, ?_, by omega, by omega⟩ <;> rfl)
   | (refine ⟨[0], t - 1, ?_, ?_, ?_, ?_, ?_, ⟨by omega, by omega⟩, by omega⟩ <;> first | rfl | (rw [Nat.add_sub_assoc (by omega)]; rfl))
   | (have := jq.le; have := jq.n; rw [show t = q.1 by omega, yEO ‹(L.length : Int) = 1› hl.sr jq ‹_›]; exact ⟨_, rfl, zCt _, by simp, rfl⟩)
   | (rw [show t = q.1 by omega, yEN ‹(R.length : Int) = 1› hl.sl jq ‹_›]; exact ⟨_, rfl, zCt _, by simp, rfl⟩)
   | (rw [yHs ‹_›]; done)
   | (rw [yHr ‹_›]; done)
   | exact ⟨Nat.zero_le _, Nat.le_refl _, by simp, by simp⟩
   | exact ⟨by have := jq.le; have := jq.n; omega, Nat.le_refl _⟩
   | exact zV4 hl.l hl.r
   | (rw [yEu hl jq ‹_›]; exact ⟨_, rfl, zCt _, by simp, rfl⟩)
   | (have e1 : symR0 L R = symH L R := (by unfold symR0; omega); rw [e1]; done)
   | (have e1 : symR0 L R = L.length := (by unfold symR0; omega); have e2 : symS0 L R = 0 := (by unfold symS0; have hh : symH L R = (L.length + R.length) / 2 := rfl; omega); rw [e1, e2]; rfl)
end
end Go.Mir
