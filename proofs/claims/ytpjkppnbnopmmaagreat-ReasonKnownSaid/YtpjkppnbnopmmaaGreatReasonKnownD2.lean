/- The machine's commands of the functions that ReasonKnown reaches (part 2), printed by a program. -/
import Derived.Test.YtpjkppnbnopmmaaGreatReasonKnownD1
namespace Go.Proofs.YtpjkppnbnopmmaaGreat.reasonKnown
open Hx Go
set_option maxRecDepth 100000
noncomputable section
def Ko100_6 : Cmd := (cOps [⟨.a (aMv (oVar 5)), none, none, [], false⟩, ⟨.a (aBin .mul .num (oCon (.int .i64 (.ofNat 2))) (oStk 0)), none, none, [], false⟩, ⟨.a (aBin .add .num (oStk 0) (oCon (.int .i64 (.ofNat 1)))), none, none, [], false⟩, ⟨.a (aMv (oStk 0)), none, some 6, [], false⟩])
def Ko100_9 : Cmd := (cOps [⟨.a (aMv (oVar 6)), none, none, [], false⟩, ⟨.a (aMv (oVar 2)), none, none, [], false⟩, ⟨.a (aBin .geq .num (oStk 1) (oStk 0)), none, some 7, [], false⟩])
def Ko100_10 : Cmd := cCnd (oVar 7) (cExit 0) cNop
def Ko100_8 : Cmd := cSeq Ko100_9 Ko100_10
def Ko100_13 : Cmd := (cPre [] 19 [⟨.a (aMv (oVar 6)), none, none, [], false⟩, ⟨.a (aBin .add .num (oStk 0) (oCon (.int .i64 (.ofNat 1)))), none, none, [], false⟩, ⟨.a (aMv (oVar 2)), none, none, [], false⟩, ⟨.a (aBin .lss .num (oStk 1) (oStk 0)), none, none, [], false⟩, ⟨.a (aMv (oStk 0)), none, none, [], false⟩, ⟨.a (aMv (oVar 4)), (some (oStk 0, true)), none, [], false⟩, ⟨.a (aMv (oVar 0)), (some (oStk 1, true)), none, [], false⟩, ⟨.a (aMv (oVar 3)), (some (oStk 2, true)), none, [], false⟩, ⟨.a (aMv (oVar 6)), (some (oStk 3, true)), none, [], false⟩, ⟨.a (aBin .add .num (oStk 1) (oStk 0)), (some (oStk 4, true)), none, [], false⟩, ⟨.a (aIxs 1 (oStk 3) (oStk 0)), (some (oStk 5, true)), none, [], false⟩, ⟨.a (aLoad 1 false (oStk 0)), (some (oStk 6, true)), none, [], false⟩, ⟨.a (aMv (oVar 0)), (some (oStk 7, true)), none, [], false⟩, ⟨.a (aMv (oVar 3)), (some (oStk 8, true)), none, [], false⟩, ⟨.a (aMv (oVar 6)), (some (oStk 9, true)), none, [], false⟩, ⟨.a (aBin .add .num (oStk 1) (oStk 0)), (some (oStk 10, true)), none, [], false⟩, ⟨.a (aBin .add .num (oStk 0) (oCon (.int .i64 (.ofNat 1)))), (some (oStk 11, true)), none, [], false⟩, ⟨.a (aIxs 1 (oStk 4) (oStk 0)), (some (oStk 12, true)), none, [], false⟩, ⟨.a (aLoad 1 false (oStk 0)), (some (oStk 13, true)), none, [], false⟩, ⟨.call (oStk 13) [(oStk 7), (oStk 0)], (some (oStk 14, true)), none, [], true⟩, ⟨.a (aBin .lss .num (oStk 0) (oCon (.int .i64 (.ofNat 0)))), (some (oStk 15, true)), none, [], false⟩, ⟨.a (aPick (oStk 16) (oStk 0) (oCon (.bool false))), none, some 8, [], false⟩])
def Ko100_15 : Cmd := (cOps [⟨.a (aMv (oVar 6)), none, none, [], false⟩, ⟨.a (aBin .add .num (oStk 0) (oCon (.int .i64 (.ofNat 1)))), none, none, [], false⟩, ⟨.a (aMv (oStk 0)), none, some 6, [], false⟩])
def Ko100_14 : Cmd := cCnd (oVar 8) Ko100_15 cNop
def Ko100_12 : Cmd := cSeq Ko100_13 Ko100_14
def Ko100_18 : Cmd := (cPre [] 0 [⟨.a (aMv (oVar 4)), none, none, [], false⟩, ⟨.a (aMv (oVar 0)), none, none, [], false⟩, ⟨.a (aMv (oVar 3)), none, none, [], false⟩, ⟨.a (aMv (oVar 5)), none, none, [], false⟩, ⟨.a (aBin .add .num (oStk 1) (oStk 0)), none, none, [], false⟩, ⟨.a (aIxs 1 (oStk 3) (oStk 0)), none, none, [], false⟩, ⟨.a (aLoad 1 false (oStk 0)), none, none, [], false⟩, ⟨.a (aMv (oVar 0)), none, none, [], false⟩, ⟨.a (aMv (oVar 3)), none, none, [], false⟩, ⟨.a (aMv (oVar 6)), none, none, [], false⟩, ⟨.a (aBin .add .num (oStk 1) (oStk 0)), none, none, [], false⟩, ⟨.a (aIxs 1 (oStk 3) (oStk 0)), none, none, [], false⟩, ⟨.a (aLoad 1 false (oStk 0)), none, none, [], false⟩, ⟨.call (oStk 12) [(oStk 6), (oStk 0)], none, none, [], true⟩, ⟨.a (aBin .lss .num (oStk 0) (oCon (.int .i64 (.ofNat 0)))), none, none, [], false⟩, ⟨.a (aUn .not (oStk 0)), none, some 9, [], false⟩])
def Ko100_19 : Cmd := cCnd (oVar 9) cRet cNop
def Ko100_17 : Cmd := cSeq Ko100_18 Ko100_19
def Ko100_21 : Cmd := (cPre [] 0 [⟨.a (aMv (oVar 0)), none, none, [], false⟩, ⟨.a (aMv (oVar 3)), none, none, [], false⟩, ⟨.a (aMv (oVar 5)), none, none, [], false⟩, ⟨.a (aBin .add .num (oStk 1) (oStk 0)), none, none, [], false⟩, ⟨.a (aMv (oVar 0)), none, none, [], false⟩, ⟨.a (aMv (oVar 3)), none, none, [], false⟩, ⟨.a (aMv (oVar 6)), none, none, [], false⟩, ⟨.a (aBin .add .num (oStk 1) (oStk 0)), none, none, [], false⟩, ⟨.a (aMv (oVar 0)), none, none, [], false⟩, ⟨.a (aMv (oVar 3)), none, none, [], false⟩, ⟨.a (aMv (oVar 6)), none, none, [], false⟩, ⟨.a (aBin .add .num (oStk 1) (oStk 0)), none, none, [], false⟩, ⟨.a (aIxs 1 (oStk 3) (oStk 0)), none, none, [], false⟩, ⟨.a (aLoad 1 false (oStk 0)), none, none, [], false⟩, ⟨.a (aMv (oVar 0)), none, none, [], false⟩, ⟨.a (aMv (oVar 3)), none, none, [], false⟩, ⟨.a (aMv (oVar 5)), none, none, [], false⟩, ⟨.a (aBin .add .num (oStk 1) (oStk 0)), none, none, [], false⟩, ⟨.a (aIxs 1 (oStk 3) (oStk 0)), none, none, [], false⟩, ⟨.a (aLoad 1 false (oStk 0)), none, none, [], false⟩, ⟨.a (aIxs 1 (oStk 19) (oStk 16)), none, none, [], false⟩, ⟨.e (eStore 1 (oStk 0) (oStk 7)), none, none, [], false⟩, ⟨.a (aIxs 1 (oStk 17) (oStk 14)), none, none, [], false⟩, ⟨.e (eStore 1 (oStk 0) (oStk 3)), none, none, [], false⟩])
def Ko100_22 : Cmd := (cOps [⟨.a (aMv (oVar 6)), none, none, [], false⟩, ⟨.a (aMv (oStk 0)), none, some 5, [], false⟩])
def Ko100_20 : Cmd := cSeq Ko100_21 Ko100_22
def Ko100_16 : Cmd := cSeq Ko100_17 Ko100_20
def Ko100_11 : Cmd := cSeq Ko100_12 Ko100_16
def Ko100_7 : Cmd := cSeq Ko100_8 Ko100_11
def Ko100_5 : Cmd := cSeq Ko100_6 Ko100_7
def Ko100_4 : Cmd := cBlk 1 Ko100_5
def Ko100_3 : Cmd := cLoop Ko100_4
def Ko100_2 : Cmd := cBlk 0 Ko100_3
def Ko100_0 : Cmd := cSeq Ko100_1 Ko100_2
def Ki100 : FnI := ⟨5, 5, Ko100_0, fun _ _ _ _ _ => none, []⟩
def Ko101_1 : Cmd := (cOps [⟨.a (aMv (oCon (.int .u64 (.ofNat 0)))), none, some 1, [], false⟩])
def Ko101_3 : Cmd := (cOps [⟨.a (aMv (oVar 0)), none, none, [], false⟩, ⟨.a (aConv .u64 (oStk 0)), none, none, [], false⟩, ⟨.call (oCon (.fn (.func 71) [] [])) [(oStk 0)], none, none, [], false⟩, ⟨.a (aBin .shl .num (oCon (.int .u64 (.ofNat 1))) (oStk 0)), none, none, [], false⟩, ⟨.a (aMv (oStk 0)), none, some 1, [], false⟩])
def Ko101_2 : Cmd := cSeq Ko101_3 cRet
def Ko101_0 : Cmd := cSeq Ko101_1 Ko101_2
def Ki101 : FnI := ⟨1, 1, Ko101_0, fun _ _ _ _ _ => none, [.var 1]⟩
def Ko102_1 : Cmd := (cOps [⟨.a (aMv (oCon (.int .u64 (.ofNat 0)))), none, some 1, [], false⟩])
def Ko102_3 : Cmd := (cPre [] 0 [⟨.a (aMv (oVar 0)), none, none, [], false⟩, ⟨.a (aChk (oStk 0)), none, none, [], false⟩, ⟨.a (aLoad 1 false (oStk 0)), none, none, [], false⟩, ⟨.a (aMv (oVar 0)), none, none, [], false⟩, ⟨.a (aChk (oStk 0)), none, none, [], false⟩, ⟨.a (aLoad 1 false (oStk 0)), none, none, [], false⟩, ⟨.a (aBin .shl .num (oStk 0) (oCon (.int .u64 (.ofNat 13)))), none, none, [], false⟩, ⟨.a (aBin .xor .num (oStk 4) (oStk 0)), none, none, [], false⟩, ⟨.a (aChk (oStk 7)), none, none, [], false⟩, ⟨.e (eStore 1 (oStk 0) (oStk 1)), none, none, [], false⟩])
def Ko102_5 : Cmd := (cPre [] 0 [⟨.a (aMv (oVar 0)), none, none, [], false⟩, ⟨.a (aChk (oStk 0)), none, none, [], false⟩, ⟨.a (aLoad 1 false (oStk 0)), none, none, [], false⟩, ⟨.a (aMv (oVar 0)), none, none, [], false⟩, ⟨.a (aChk (oStk 0)), none, none, [], false⟩, ⟨.a (aLoad 1 false (oStk 0)), none, none, [], false⟩, ⟨.a (aBin .shr .num (oStk 0) (oCon (.int .u64 (.ofNat 7)))), none, none, [], false⟩, ⟨.a (aBin .xor .num (oStk 4) (oStk 0)), none, none, [], false⟩, ⟨.a (aChk (oStk 7)), none, none, [], false⟩, ⟨.e (eStore 1 (oStk 0) (oStk 1)), none, none, [], false⟩])
def Ko102_7 : Cmd := (cPre [] 0 [⟨.a (aMv (oVar 0)), none, none, [], false⟩, ⟨.a (aChk (oStk 0)), none, none, [], false⟩, ⟨.a (aLoad 1 false (oStk 0)), none, none, [], false⟩, ⟨.a (aMv (oVar 0)), none, none, [], false⟩, ⟨.a (aChk (oStk 0)), none, none, [], false⟩, ⟨.a (aLoad 1 false (oStk 0)), none, none, [], false⟩, ⟨.a (aBin .shl .num (oStk 0) (oCon (.int .u64 (.ofNat 17)))), none, none, [], false⟩, ⟨.a (aBin .xor .num (oStk 4) (oStk 0)), none, none, [], false⟩, ⟨.a (aChk (oStk 7)), none, none, [], false⟩, ⟨.e (eStore 1 (oStk 0) (oStk 1)), none, none, [], false⟩])
def Ko102_9 : Cmd := (cOps [⟨.a (aMv (oVar 0)), none, none, [], false⟩, ⟨.a (aChk (oStk 0)), none, none, [], false⟩, ⟨.a (aLoad 1 false (oStk 0)), none, none, [], false⟩, ⟨.a (aMv (oStk 0)), none, some 1, [], false⟩])
def Ko102_8 : Cmd := cSeq Ko102_9 cRet
def Ko102_6 : Cmd := cSeq Ko102_7 Ko102_8
def Ko102_4 : Cmd := cSeq Ko102_5 Ko102_6
def Ko102_2 : Cmd := cSeq Ko102_3 Ko102_4
def Ko102_0 : Cmd := cSeq Ko102_1 Ko102_2
def Ki102 : FnI := ⟨1, 1, Ko102_0, fun _ _ _ _ _ => none, [.var 1]⟩
def Ko103_1 : Cmd := (cOps [⟨.a (aMv (oCon (.int .i64 (.ofNat 0)))), none, some 4, [], false⟩])
def Ko103_3 : Cmd := (cOps [⟨.a (aMv (oVar 0)), none, none, [], false⟩, ⟨.a (aMv (oVar 1)), none, none, [], false⟩, ⟨.a (aBin .sub .num (oStk 0) (oCon (.int .i64 (.ofNat 1)))), none, none, [], false⟩, ⟨.a (aMv (oVar 1)), none, none, [], false⟩, ⟨.a (aMv (oVar 1)), none, none, [], false⟩, ⟨.a (aBin .add .num (oStk 0) (oCon (.int .i64 (.ofNat 1)))), none, none, [], false⟩, ⟨.a (aMv (oVar 2)), none, none, [], false⟩, ⟨.a (aMv (oVar 3)), none, none, [], false⟩, ⟨.call (oCon (.fn (.func 104) [] [])) [(oStk 7), (oStk 5), (oStk 4), (oStk 2), (oStk 1), (oStk 0)], none, none, [], false⟩, ⟨.a (aMv (oStk 0)), none, some 4, [], false⟩])
def Ko103_2 : Cmd := cSeq Ko103_3 cRet
def Ko103_0 : Cmd := cSeq Ko103_1 Ko103_2
def Ki103 : FnI := ⟨4, 1, Ko103_0, fun _ _ _ _ _ => none, [.var 4]⟩
def Ko104_1 : Cmd := (cOps [⟨.a (aMv (oCon (.int .i64 (.ofNat 0)))), none, some 6, [], false⟩])
def Ko104_3 : Cmd := (cOps [⟨.a (aMv (oVar 0)), none, none, [], false⟩, ⟨.a (aMv (oVar 1)), none, none, [], false⟩, ⟨.a (aMv (oVar 2)), none, none, [], false⟩, ⟨.a (aMv (oVar 4)), none, none, [], false⟩, ⟨.a (aMv (oVar 5)), none, none, [], false⟩, ⟨.call (oCon (.fn (.func 108) [] [])) [(oStk 4), (oStk 3), (oStk 2), (oStk 1), (oStk 0)], none, none, [], false⟩, ⟨.a (aMv (oStk 0)), none, none, [], false⟩, ⟨.a (aExt (oStk 0) 0), none, none, [], false⟩, ⟨.a (aExt (oStk 1) 1), none, none, [], false⟩, ⟨.a (aMv (oStk 1)), none, some 1, [], false⟩, ⟨.a (aMv (oStk 1)), none, some 2, [], false⟩])
def Ko104_5 : Cmd := (cOps [⟨.a (aMv (oVar 0)), none, none, [], false⟩, ⟨.a (aMv (oVar 2)), none, none, [], false⟩, ⟨.a (aMv (oVar 3)), none, none, [], false⟩, ⟨.a (aMv (oVar 4)), none, none, [], false⟩, ⟨.a (aMv (oVar 5)), none, none, [], false⟩, ⟨.call (oCon (.fn (.func 108) [] [])) [(oStk 4), (oStk 3), (oStk 2), (oStk 1), (oStk 0)], none, none, [], false⟩, ⟨.a (aMv (oStk 0)), none, none, [], false⟩, ⟨.a (aExt (oStk 0) 0), none, none, [], false⟩, ⟨.a (aExt (oStk 1) 1), none, none, [], false⟩, ⟨.a (aMv (oStk 1)), none, some 2, [], false⟩, ⟨.a (aMv (oStk 1)), none, some 3, [], false⟩])
def Ko104_7 : Cmd := (cOps [⟨.a (aMv (oVar 0)), none, none, [], false⟩, ⟨.a (aMv (oVar 1)), none, none, [], false⟩, ⟨.a (aMv (oVar 2)), none, none, [], false⟩, ⟨.a (aMv (oVar 4)), none, none, [], false⟩, ⟨.a (aMv (oVar 5)), none, none, [], false⟩, ⟨.call (oCon (.fn (.func 108) [] [])) [(oStk 4), (oStk 3), (oStk 2), (oStk 1), (oStk 0)], none, none, [], false⟩, ⟨.a (aMv (oStk 0)), none, none, [], false⟩, ⟨.a (aExt (oStk 0) 0), none, none, [], false⟩, ⟨.a (aExt (oStk 1) 1), none, none, [], false⟩, ⟨.a (aMv (oStk 1)), none, some 1, [], false⟩, ⟨.a (aMv (oStk 1)), none, some 2, [], false⟩])
def Ko104_9 : Cmd := (cOps [⟨.a (aMv (oVar 2)), none, none, [], false⟩, ⟨.a (aMv (oStk 0)), none, some 6, [], false⟩])
def Ko104_8 : Cmd := cSeq Ko104_9 cRet
def Ko104_6 : Cmd := cSeq Ko104_7 Ko104_8
def Ko104_4 : Cmd := cSeq Ko104_5 Ko104_6
def Ko104_2 : Cmd := cSeq Ko104_3 Ko104_4
def Ko104_0 : Cmd := cSeq Ko104_1 Ko104_2
def Ki104 : FnI := ⟨6, 1, Ko104_0, fun _ _ _ _ _ => none, [.var 6]⟩
def Ko105_1 : Cmd := (cOps [⟨.a (aMv (oCon (.int .i64 (.ofNat 0)))), none, some 10, [], false⟩, ⟨.a (aMv (oCon (.int .i64 (.ofNat 0)))), none, some 11, [], false⟩])
def Ko105_4 : Cmd := (cOps [⟨.a (aMv (oVar 0)), none, none, [], false⟩, ⟨.a (aLens (oStk 0)), none, none, [], false⟩, ⟨.a (aBin .gtr .num (oStk 0) (oCon (.int .i64 (.ofNat 12)))), none, some 1, [], false⟩])
def Ko105_7 : Cmd := (cOps [⟨.a (aMv (oCon (.int .i64 (.ofNat 0)))), none, some 10, [], false⟩, ⟨.a (aMv (oCon (.int .i64 (.ofNat 20)))), none, some 11, [], false⟩])
def Ko105_6 : Cmd := cSeq Ko105_7 cRet
def Ko105_5 : Cmd := cCnd (oVar 1) Ko105_6 cNop
def Ko105_3 : Cmd := cSeq Ko105_4 Ko105_5
def Ko105_9 : Cmd := (cOps [⟨.a (aMv (oCon (.int .i64 (.ofNat 1)))), none, some 8, [], false⟩])
def Ko105_12 : Cmd := (cOps [⟨.a (aMv (oVar 0)), none, some 5, [], false⟩, ⟨.a (aLens (oStk 0)), none, some 3, [], false⟩, ⟨.a (aMv (oCon (.int .i64 (.ofNat 0)))), none, some 2, [], false⟩])
def Ko105_16 : Cmd := (cOps [⟨.a (aBin .lss .num (oVar 2) (oVar 3)), none, some 4, [], false⟩])
def Ko105_18 : Cmd := cCnd (oVar 4) cNop (cExit 0)
def Ko105_22 : Cmd := (cOps [⟨.a (aIxs 1 (oVar 5) (oVar 2)), none, none, [], false⟩, ⟨.a (aLoad 1 false (oStk 0)), none, none, [], false⟩, ⟨.a (aMv (oStk 0)), none, some 6, [], false⟩])
def Ko105_25 : Cmd := (cOps [⟨.a (aMv (oVar 6)), none, none, [], false⟩, ⟨.a (aBin .lss .num (oStk 0) (oCon (.int .i64 (.ofNat 1)))), none, none, [], false⟩, ⟨.a (aMv (oStk 0)), none, none, [], false⟩, ⟨.a (aMv (oVar 6)), (some (oStk 0, false)), none, [], false⟩, ⟨.a (aBin .gtr .num (oStk 0) (oCon (.int .i64 (.ofNat 8)))), (some (oStk 1, false)), none, [], false⟩, ⟨.a (aPick (oStk 2) (oCon (.bool true)) (oStk 0)), none, some 7, [], false⟩])
def Ko105_28 : Cmd := (cOps [⟨.a (aMv (oCon (.int .i64 (.ofNat 0)))), none, some 10, [], false⟩, ⟨.a (aMv (oCon (.int .i64 (.ofNat 20)))), none, some 11, [], false⟩])
def Ko105_27 : Cmd := cSeq Ko105_28 cRet
def Ko105_26 : Cmd := cCnd (oVar 7) Ko105_27 cNop
def Ko105_24 : Cmd := cSeq Ko105_25 Ko105_26
def Ko105_30 : Cmd := (cOps [⟨.a (aMv (oVar 8)), none, none, [], false⟩, ⟨.a (aMv (oVar 6)), none, none, [], false⟩, ⟨.a (aBin .mul .num (oStk 1) (oStk 0)), none, none, [], false⟩, ⟨.a (aMv (oStk 0)), none, some 8, [], false⟩])
def Ko105_32 : Cmd := (cOps [⟨.a (aMv (oVar 8)), none, none, [], false⟩, ⟨.a (aBin .gtr .num (oStk 0) (oCon (.int .i64 (.ofNat 4096)))), none, some 9, [], false⟩])
def Ko105_35 : Cmd := (cOps [⟨.a (aMv (oCon (.int .i64 (.ofNat 0)))), none, some 10, [], false⟩, ⟨.a (aMv (oCon (.int .i64 (.ofNat 20)))), none, some 11, [], false⟩])
def Ko105_34 : Cmd := cSeq Ko105_35 cRet
def Ko105_33 : Cmd := cCnd (oVar 9) Ko105_34 cNop
def Ko105_31 : Cmd := cSeq Ko105_32 Ko105_33
def Ko105_29 : Cmd := cSeq Ko105_30 Ko105_31
def Ko105_23 : Cmd := cSeq Ko105_24 Ko105_29
def Ko105_21 : Cmd := cSeq Ko105_22 Ko105_23
def Ko105_20 : Cmd := cBlk 1 Ko105_21
def Ko105_36 : Cmd := (cOps [⟨.a (aBin .add .num (oVar 2) (oCon (.int .i64 (.ofNat 1)))), none, none, [], false⟩, ⟨.a (aMv (oStk 0)), none, some 2, [], false⟩])
def Ko105_19 : Cmd := cSeq Ko105_20 Ko105_36
def Ko105_17 : Cmd := cSeq Ko105_18 Ko105_19
def Ko105_15 : Cmd := cSeq Ko105_16 Ko105_17
def Ko105_14 : Cmd := cLoop Ko105_15
def Ko105_13 : Cmd := cBlk 0 Ko105_14
def Ko105_11 : Cmd := cSeq Ko105_12 Ko105_13
def Ko105_38 : Cmd := (cOps [⟨.a (aMv (oVar 8)), none, none, [], false⟩, ⟨.a (aMv (oStk 0)), none, some 10, [], false⟩, ⟨.a (aMv (oCon (.int .i64 (.ofNat 0)))), none, some 11, [], false⟩])
def Ko105_37 : Cmd := cSeq Ko105_38 cRet
def Ko105_10 : Cmd := cSeq Ko105_11 Ko105_37
def Ko105_8 : Cmd := cSeq Ko105_9 Ko105_10
def Ko105_2 : Cmd := cSeq Ko105_3 Ko105_8
def Ko105_0 : Cmd := cSeq Ko105_1 Ko105_2
def Ki105 : FnI := ⟨1, 11, Ko105_0, fun _ _ _ _ _ => none, [.var 10, .var 11]⟩
def Ko106_1 : Cmd := (cOps [⟨.a (aMv (oCon (.bool false))), none, some 10, [], false⟩])
def Ko106_4 : Cmd := (cOps [⟨.a (aMv (oVar 0)), none, none, [], false⟩, ⟨.a (aLens (oStk 0)), none, none, [], false⟩, ⟨.a (aMv (oVar 1)), none, none, [], false⟩, ⟨.a (aLens (oStk 0)), none, none, [], false⟩, ⟨.a (aBin .eql .num (oStk 2) (oStk 0)), none, none, [], false⟩, ⟨.a (aMv (oStk 0)), none, some 6, [], false⟩])
def Ko106_8 : Cmd := (cOps [⟨.a (aMv (oVar 0)), none, some 5, [], false⟩, ⟨.a (aLens (oStk 0)), none, some 3, [], false⟩, ⟨.a (aMv (oCon (.int .i64 (.ofNat 0)))), none, some 2, [], false⟩])
def Ko106_12 : Cmd := (cOps [⟨.a (aBin .lss .num (oVar 2) (oVar 3)), none, some 4, [], false⟩])
def Ko106_14 : Cmd := cCnd (oVar 4) cNop (cExit 0)
def Ko106_18 : Cmd := (cOps [⟨.a (aMv (oVar 2)), none, none, [], false⟩, ⟨.a (aIxs 1 (oVar 5) (oVar 2)), none, none, [], false⟩, ⟨.a (aLoad 1 false (oStk 0)), none, none, [], false⟩, ⟨.a (aMv (oStk 2)), none, some 8, [], false⟩, ⟨.a (aMv (oStk 1)), none, some 7, [], false⟩])
def Ko106_20 : Cmd := (cOps [⟨.a (aMv (oVar 6)), none, none, [], false⟩, ⟨.a (aUn .not (oStk 0)), none, none, [], false⟩, ⟨.a (aMv (oStk 0)), none, none, [], false⟩, ⟨.a (aMv (oVar 7)), (some (oStk 0, false)), none, [], false⟩, ⟨.a (aBin .lss .num (oStk 0) (oCon (.int .i64 (.ofNat 0)))), (some (oStk 1, false)), none, [], false⟩, ⟨.a (aPick (oStk 2) (oCon (.bool true)) (oStk 0)), none, none, [], false⟩, ⟨.a (aMv (oStk 0)), none, none, [], false⟩, ⟨.a (aMv (oVar 7)), (some (oStk 0, false)), none, [], false⟩, ⟨.a (aMv (oVar 1)), (some (oStk 1, false)), none, [], false⟩, ⟨.a (aMv (oVar 8)), (some (oStk 2, false)), none, [], false⟩, ⟨.a (aIxs 1 (oStk 1) (oStk 0)), (some (oStk 3, false)), none, [], false⟩, ⟨.a (aLoad 1 false (oStk 0)), (some (oStk 4, false)), none, [], false⟩, ⟨.a (aBin .geq .num (oStk 4) (oStk 0)), (some (oStk 5, false)), none, [], false⟩, ⟨.a (aPick (oStk 6) (oCon (.bool true)) (oStk 0)), none, some 9, [], false⟩])
def Ko106_23 : Cmd := (cOps [⟨.a (aMv (oCon (.bool false))), none, some 6, [], false⟩])
def Ko106_22 : Cmd := cSeq Ko106_23 (cExit 0)
def Ko106_21 : Cmd := cCnd (oVar 9) Ko106_22 cNop
def Ko106_19 : Cmd := cSeq Ko106_20 Ko106_21
def Ko106_17 : Cmd := cSeq Ko106_18 Ko106_19
def Ko106_16 : Cmd := cBlk 1 Ko106_17
def Ko106_24 : Cmd := (cOps [⟨.a (aBin .add .num (oVar 2) (oCon (.int .i64 (.ofNat 1)))), none, none, [], false⟩, ⟨.a (aMv (oStk 0)), none, some 2, [], false⟩])
def Ko106_15 : Cmd := cSeq Ko106_16 Ko106_24
def Ko106_13 : Cmd := cSeq Ko106_14 Ko106_15
def Ko106_11 : Cmd := cSeq Ko106_12 Ko106_13
def Ko106_10 : Cmd := cLoop Ko106_11
def Ko106_9 : Cmd := cBlk 0 Ko106_10
def Ko106_7 : Cmd := cSeq Ko106_8 Ko106_9
def Ko106_26 : Cmd := (cOps [⟨.a (aMv (oVar 6)), none, none, [], false⟩, ⟨.a (aMv (oStk 0)), none, some 10, [], false⟩])
def Ko106_25 : Cmd := cSeq Ko106_26 cRet
def Ko106_6 : Cmd := cSeq Ko106_7 Ko106_25
def Ko106_5 : Cmd := cSeq cNop Ko106_6
def Ko106_3 : Cmd := cSeq Ko106_4 Ko106_5
def Ko106_2 : Cmd := cScope Ko106_3
def Ko106_0 : Cmd := cSeq Ko106_1 Ko106_2
def Ki106 : FnI := ⟨2, 9, Ko106_0, fun _ _ _ _ _ => none, [.var 10]⟩
def Ko107_1 : Cmd := (cOps [⟨.a (aMv (oCon .nils)), none, some 8, [], false⟩])
def Ko107_3 : Cmd := (cOps [⟨.a (aMv (oVar 0)), none, none, [], false⟩, ⟨.a (aLens (oStk 0)), none, none, [], false⟩, ⟨.a (aMks 3 1 8 [(.int .i64 (.ofNat 0))] (oStk 0) (oStk 0)), none, none, [], false⟩, ⟨.a (aNew [.nils] 26), none, some 5, [], false⟩, ⟨.e (eStore 1 (oStk 0) (oStk 1)), none, none, [], false⟩])
def Ko107_6 : Cmd := (cOps [⟨.a (aMv (oVar 0)), none, none, [], false⟩, ⟨.a (aMv (oVar 1)), none, none, [], false⟩, ⟨.call (oCon (.fn (.func 109) [] [])) [(oStk 1), (oStk 0)], none, some 2, [], false⟩])
def Ko107_8 : Cmd := cRng (oVar 2) [3, 4] 4
def Ko107_7 : Cmd := cBlk 0 Ko107_8
def Ko107_5 : Cmd := cSeq Ko107_6 Ko107_7
def Ko107_10 : Cmd := (cOps [⟨.a (aLoad 1 false (oVar 5)), none, none, [], false⟩, ⟨.a (aMv (oStk 0)), none, some 8, [], false⟩])
def Ko107_9 : Cmd := cSeq Ko107_10 cRet
def Ko107_4 : Cmd := cSeq Ko107_5 Ko107_9
def Ko107_2 : Cmd := cSeq Ko107_3 Ko107_4
def Ko107_0 : Cmd := cSeq Ko107_1 Ko107_2
def Ki107 : FnI := ⟨2, 7, Ko107_0, fun _ _ _ _ _ => none, [.var 8]⟩
def Ka4_1 : Cmd := (cOps [⟨.a (aMv (oVar 3)), none, some 6, [], false⟩])
def Ka4_2 : Cmd := (cOps [⟨.a (aMv (oVar 4)), none, some 7, [], false⟩])
def Ka4_0 : Cmd := cSeq Ka4_1 Ka4_2
def Kc4_1 : Cmd := (cOps [⟨.a (aLoad 1 false (oVar 5)), none, none, [], false⟩, ⟨.a (aMv (oVar 6)), none, none, [], false⟩, ⟨.a (aMv (oVar 7)), none, none, [], false⟩, ⟨.a (aIxs 1 (oStk 2) (oStk 1)), none, none, [], false⟩, ⟨.e (eStore 1 (oStk 0) (oStk 1)), none, none, [], false⟩])
def Kc4_0 : Cmd := cBlk 1 Kc4_1
def Kb4 : Cmd × Cmd := (Ka4_0, Kc4_0)
def Ko108_1 : Cmd := (cOps [⟨.a (aMv (oCon (.int .i64 (.ofNat 0)))), none, some 6, [], false⟩, ⟨.a (aMv (oCon (.int .i64 (.ofNat 0)))), none, some 7, [], false⟩])
def Ko108_4 : Cmd := (cPre [] 0 [⟨.a (aMv (oVar 4)), none, none, [], false⟩, ⟨.a (aMv (oVar 0)), none, none, [], false⟩, ⟨.a (aMv (oVar 2)), none, none, [], false⟩, ⟨.a (aIxs 1 (oStk 1) (oStk 0)), none, none, [], false⟩, ⟨.a (aLoad 1 false (oStk 0)), none, none, [], false⟩, ⟨.a (aMv (oVar 0)), none, none, [], false⟩, ⟨.a (aMv (oVar 1)), none, none, [], false⟩, ⟨.a (aIxs 1 (oStk 1) (oStk 0)), none, none, [], false⟩, ⟨.a (aLoad 1 false (oStk 0)), none, none, [], false⟩, ⟨.call (oStk 8) [(oStk 4), (oStk 0)], none, none, [], true⟩, ⟨.a (aBin .lss .num (oStk 0) (oCon (.int .i64 (.ofNat 0)))), none, some 5, [], false⟩])
def Ko108_7 : Cmd := (cOps [⟨.a (aMv (oVar 3)), none, none, [], false⟩, ⟨.a (aChk (oStk 0)), none, none, [], false⟩, ⟨.a (aLoad 1 false (oStk 0)), none, none, [], false⟩, ⟨.a (aBin .add .num (oStk 0) (oCon (.int .i64 (.ofNat 1)))), none, none, [], false⟩, ⟨.a (aChk (oStk 3)), none, none, [], false⟩, ⟨.e (eStore 1 (oStk 0) (oStk 1)), none, none, [], false⟩])
def Ko108_9 : Cmd := (cOps [⟨.a (aMv (oVar 2)), none, none, [], false⟩, ⟨.a (aMv (oVar 1)), none, none, [], false⟩, ⟨.a (aMv (oStk 1)), none, some 6, [], false⟩, ⟨.a (aMv (oStk 1)), none, some 7, [], false⟩])
def Ko108_8 : Cmd := cSeq Ko108_9 cRet
def Ko108_6 : Cmd := cSeq Ko108_7 Ko108_8
def Ko108_5 : Cmd := cCnd (oVar 5) Ko108_6 cNop
def Ko108_3 : Cmd := cSeq Ko108_4 Ko108_5
def Ko108_11 : Cmd := (cOps [⟨.a (aMv (oVar 1)), none, none, [], false⟩, ⟨.a (aMv (oVar 2)), none, none, [], false⟩, ⟨.a (aMv (oStk 1)), none, some 6, [], false⟩, ⟨.a (aMv (oStk 1)), none, some 7, [], false⟩])
def Ko108_10 : Cmd := cSeq Ko108_11 cRet
def Ko108_2 : Cmd := cSeq Ko108_3 Ko108_10
def Ko108_0 : Cmd := cSeq Ko108_1 Ko108_2
def Ki108 : FnI := ⟨5, 3, Ko108_0, fun _ _ _ _ _ => none, [.var 6, .var 7]⟩
def Ko109_1 : Cmd := (cOps [⟨.a (aBox 26 (oVar 0)), none, some 2, [], false⟩, ⟨.a (aBox 3 (oVar 1)), none, some 3, [], false⟩, ⟨.a (aMv (oCon .nilf)), none, some 4, [], false⟩])
def Ko109_3 : Cmd := (cOps [⟨.a (aMkf (.func 110) [] [(oVar 2), (oVar 3)]), none, none, [], false⟩, ⟨.a (aMv (oStk 0)), none, some 4, [], false⟩])
def Ko109_2 : Cmd := cSeq Ko109_3 cRet
def Ko109_0 : Cmd := cSeq Ko109_1 Ko109_2
def Ki109 : FnI := ⟨2, 3, Ko109_0, fun _ _ _ _ _ => none, [.var 4]⟩
def Ko110_1 : Cmd := (cOps [⟨.a (aLoad 1 false (oVar 1)), none, none, [], false⟩, ⟨.a (aLens (oStk 0)), none, none, [], false⟩, ⟨.a (aBin .sub .num (oStk 0) (oCon (.int .i64 (.ofNat 1)))), none, none, [], false⟩, ⟨.a (aMv (oStk 0)), none, some 3, [], false⟩])
def Ko110_6 : Cmd := (cOps [⟨.a (aMv (oVar 3)), none, none, [], false⟩, ⟨.a (aBin .geq .num (oStk 0) (oCon (.int .i64 (.ofNat 0)))), none, some 4, [], false⟩])
def Ko110_7 : Cmd := cCnd (oVar 4) cNop (cExit 0)
def Ko110_5 : Cmd := cSeq Ko110_6 Ko110_7
def Ko110_12 : Cmd := (cPre [] 0 [⟨.a (aMv (oVar 0)), none, none, [], false⟩, ⟨.a (aMv (oVar 3)), none, none, [], false⟩, ⟨.a (aLoad 1 false (oVar 2)), none, none, [], false⟩, ⟨.a (aLoad 1 false (oVar 1)), none, none, [], false⟩, ⟨.a (aMv (oVar 3)), none, none, [], false⟩, ⟨.a (aIxs 1 (oStk 1) (oStk 0)), none, none, [], false⟩, ⟨.a (aLoad 1 false (oStk 0)), none, none, [], false⟩, ⟨.a (aBin .rem .num (oStk 4) (oStk 0)), none, none, [], false⟩, ⟨.call (oStk 7) [(oStk 6), (oStk 0)], none, none, [], true⟩, ⟨.a (aUn .not (oStk 0)), none, some 5, [], false⟩])
def Ko110_13 : Cmd := cCnd (oVar 5) cRet cNop
def Ko110_11 : Cmd := cSeq Ko110_12 Ko110_13
def Ko110_14 : Cmd := (cPre [] 0 [⟨.a (aLoad 1 false (oVar 2)), none, none, [], false⟩, ⟨.a (aLoad 1 false (oVar 1)), none, none, [], false⟩, ⟨.a (aMv (oVar 3)), none, none, [], false⟩, ⟨.a (aIxs 1 (oStk 1) (oStk 0)), none, none, [], false⟩, ⟨.a (aLoad 1 false (oStk 0)), none, none, [], false⟩, ⟨.a (aBin .quo .num (oStk 4) (oStk 0)), none, none, [], false⟩, ⟨.e (eStore 1 (oVar 2) (oStk 0)), none, none, [], false⟩])
def Ko110_10 : Cmd := cSeq Ko110_11 Ko110_14
def Ko110_9 : Cmd := cBlk 1 Ko110_10
def Ko110_15 : Cmd := (cOps [⟨.a (aMv (oVar 3)), none, none, [], false⟩, ⟨.a (aBin .sub .num (oStk 0) (oCon (.int .i64 (.ofNat 1)))), none, none, [], false⟩, ⟨.a (aMv (oStk 0)), none, some 3, [], false⟩])
def Ko110_8 : Cmd := cSeq Ko110_9 Ko110_15
def Ko110_4 : Cmd := cSeq Ko110_5 Ko110_8
def Ko110_3 : Cmd := cLoop Ko110_4
def Ko110_2 : Cmd := cBlk 0 Ko110_3
def Ko110_0 : Cmd := cSeq Ko110_1 Ko110_2
def Ki110 : FnI := ⟨3, 3, Ko110_0, fun _ _ _ _ _ => none, []⟩
def Kit : Tr FnI := (.n (.n (.n (.n (.n (.n (.n .e (some Ki63) .e) (some Ki31) (.n .e (some Ki95) .e)) (some Ki15) (.n (.n .e (some Ki79) .e) (some Ki47) .e)) (some Ki7) (.n (.n (.n .e (some Ki71) .e) (some Ki39) (.n .e (some Ki103) .e)) (some Ki23) (.n (.n .e (some Ki87) .e) (some Ki55) .e))) (some Ki3) (.n (.n (.n (.n .e (some Ki67) .e) (some Ki35) (.n .e (some Ki99) .e)) (some Ki19) (.n (.n .e (some Ki83) .e) (some Ki51) .e)) (some Ki11) (.n (.n (.n .e (some Ki75) .e) (some Ki43) (.n .e (some Ki107) .e)) (some Ki27) (.n (.n .e (some Ki91) .e) (some Ki59) .e)))) none (.n (.n (.n (.n (.n .e (some Ki65) .e) (some Ki33) (.n .e (some Ki97) .e)) (some Ki17) (.n (.n .e (some Ki81) .e) (some Ki49) .e)) (some Ki9) (.n (.n (.n .e (some Ki73) .e) (some Ki41) (.n .e (some Ki105) .e)) (some Ki25) (.n (.n .e (some Ki89) .e) (some Ki57) .e))) (some Ki5) (.n (.n (.n (.n .e (some Ki69) .e) (some Ki37) (.n .e (some Ki101) .e)) (some Ki21) (.n (.n .e (some Ki85) .e) (some Ki53) .e)) (some Ki13) (.n (.n (.n .e (some Ki77) .e) (some Ki45) (.n .e (some Ki109) .e)) (some Ki29) (.n (.n .e (some Ki93) .e) (some Ki61) .e))))) none (.n (.n (.n (.n (.n (.n .e (some Ki64) .e) (some Ki32) (.n .e (some Ki96) .e)) (some Ki16) (.n (.n .e (some Ki80) .e) (some Ki48) .e)) (some Ki8) (.n (.n (.n .e (some Ki72) .e) (some Ki40) (.n .e (some Ki104) .e)) (some Ki24) (.n (.n .e (some Ki88) .e) (some Ki56) .e))) (some Ki4) (.n (.n (.n (.n .e (some Ki68) .e) (some Ki36) (.n .e (some Ki100) .e)) (some Ki20) (.n (.n .e (some Ki84) .e) (some Ki52) .e)) (some Ki12) (.n (.n (.n .e (some Ki76) .e) (some Ki44) (.n .e (some Ki108) .e)) (some Ki28) (.n (.n .e (some Ki92) .e) (some Ki60) .e)))) none (.n (.n (.n (.n (.n .e (some Ki66) .e) (some Ki34) (.n .e (some Ki98) .e)) (some Ki18) (.n (.n .e (some Ki82) .e) (some Ki50) .e)) (some Ki10) (.n (.n (.n .e (some Ki74) .e) (some Ki42) (.n .e (some Ki106) .e)) (some Ki26) (.n (.n .e (some Ki90) .e) (some Ki58) .e))) (some Ki6) (.n (.n (.n (.n .e (some Ki70) .e) (some Ki38) (.n .e (some Ki102) .e)) (some Ki22) (.n (.n .e (some Ki86) .e) (some Ki54) .e)) (some Ki14) (.n (.n (.n .e (some Ki78) .e) (some Ki46) (.n .e (some Ki110) .e)) (some Ki30) (.n (.n .e (some Ki94) .e) (some Ki62) .e))))))
def Kbt : Tr (Cmd × Cmd) := (.n (.n (.n .e (some Kb3) .e) (some Kb1) .e) (some Kb0) (.n (.n .e (some Kb4) .e) (some Kb2) .e))
def Kex : List (Nat × ExA) := []
end
end Go.Proofs.YtpjkppnbnopmmaaGreat.reasonKnown
