/-
  signetref2.Read: what it reads.
-/
import Derived.Test.YtdibapfehdhfjaaDoorReadLaw
import Derived.Test.YtdibapfehdhfjaaDoorEngY
namespace Go.Proofs.YtdibapfehdhfjaaDoor
open Go.Eng
set_option linter.unusedVariables false
set_option linter.unusedSimpArgs false

def Read_ic : IC :=
  (.seq
  (.reg 3 none [
    ⟨(some 2), .alloc 55 [.bool false, .slice none 0 0, .int .i64 0, .bool false, .slice none 0 0, .bool false, .string ⟨#[]⟩], none⟩,
    ⟨(some 3), .mv (.v (.bool false)), none⟩])
  (.seq
  (.reg 0 none [
    ⟨(some 13), .build [.bool false, .slice none 0 0, .int .i64 0, .bool false, .slice none 0 0, .bool false, .string ⟨#[]⟩] [(5, 1, (.v (.bool true)))], none⟩,
    ⟨(some 4), .alloc 55 [.bool false, .slice none 0 0, .int .i64 0, .bool false, .slice none 0 0, .bool false, .string ⟨#[]⟩], none⟩,
    ⟨none, .store 7 (.t 4) (.t 13), none⟩])
  (.seq
  (.reg 5 none [
    ⟨(some 5), .mv (.v (.int .i64 0)), none⟩])
  (.seq
  (.seq
  (.reg 23 none [
    ⟨(some 14), .mv (.t 5), none⟩,
    ⟨(some 15), .mv (.t 0), none⟩,
    ⟨(some 16), .lenS (.t 15), none⟩,
    ⟨(some 17), .bin false .lss (.t 14) (.t 16), none⟩,
    ⟨(some 18), .mv (.t 17), none⟩,
    ⟨(some 19), .mv (.t 0), some (18, true)⟩,
    ⟨(some 20), .mv (.t 5), some (18, true)⟩,
    ⟨(some 21), .index (.t 19) (.t 20), some (18, true)⟩,
    ⟨(some 22), .bin false .eql (.t 21) (.v (.int .u8 45)), some (18, true)⟩,
    ⟨(some 23), .pick (.t 18) (.t 22) (.v (.bool false)), none⟩])
  (.cond (.t 23)
    (.seq
    (.reg 0 none [
      ⟨(some 24), .faddr 0 (.t 4), none⟩,
      ⟨none, .store 1 (.t 24) (.v (.bool true)), none⟩])
    (.reg 5 none [
      ⟨(some 25), .mv (.t 5), none⟩,
      ⟨(some 26), .bin false .add (.t 25) (.v (.int .i64 1)), none⟩,
      ⟨(some 5), .mv (.t 26), none⟩]))
    .skip))
  (.seq
  (.reg 6 none [
    ⟨(some 27), .mv (.t 5), none⟩,
    ⟨(some 6), .mv (.t 27), none⟩])
  (.seq
  (.reg 5 none [
    ⟨(some 28), .mv (.t 0), none⟩,
    ⟨(some 29), .mv (.t 5), none⟩,
    ⟨(some 30), .call 53 [(.t 28), (.t 29)], none⟩,
    ⟨(some 5), .mv (.t 30), none⟩])
  (.seq
  (.seq
  (.reg 45 none [
    ⟨(some 31), .mv (.t 5), none⟩,
    ⟨(some 32), .mv (.t 6), none⟩,
    ⟨(some 33), .bin false .eql (.t 31) (.t 32), none⟩,
    ⟨(some 34), .mv (.t 33), none⟩,
    ⟨(some 35), .mv (.t 0), some (34, false)⟩,
    ⟨(some 36), .mv (.t 6), some (34, false)⟩,
    ⟨(some 37), .index (.t 35) (.t 36), some (34, false)⟩,
    ⟨(some 38), .bin false .eql (.t 37) (.v (.int .u8 48)), some (34, false)⟩,
    ⟨(some 39), .mv (.t 38), some (34, false)⟩,
    ⟨(some 40), .mv (.t 5), some (39, true)⟩,
    ⟨(some 41), .mv (.t 6), some (39, true)⟩,
    ⟨(some 42), .bin false .add (.t 41) (.v (.int .i64 1)), some (39, true)⟩,
    ⟨(some 43), .bin false .gtr (.t 40) (.t 42), some (39, true)⟩,
    ⟨(some 44), .pick (.t 39) (.t 43) (.v (.bool false)), some (34, false)⟩,
    ⟨(some 45), .pick (.t 34) (.v (.bool true)) (.t 44), none⟩])
  (.cond (.t 45)
    (.seq
    (.reg 3 none [
      ⟨(some 46), .load (some 7) (.t 4), none⟩,
      ⟨none, .store 7 (.t 2) (.t 46), none⟩,
      ⟨(some 3), .mv (.v (.bool false)), none⟩])
    .ret)
    .skip))
  (.seq
  (.reg 0 none [
    ⟨(some 47), .mv (.t 0), none⟩,
    ⟨(some 48), .mv (.t 6), none⟩,
    ⟨(some 49), .mv (.t 5), none⟩,
    ⟨(some 50), .sub none (.t 47) (some (.t 48)) (some (.t 49)), none⟩,
    ⟨(some 51), .faddr 6 (.t 4), none⟩,
    ⟨none, .store 1 (.t 51) (.t 50), none⟩])
  (.seq
  (.reg 7 none [
    ⟨(some 52), .mv (.t 0), none⟩,
    ⟨(some 53), .mv (.t 6), none⟩,
    ⟨(some 54), .mv (.t 5), none⟩,
    ⟨(some 55), .sub none (.t 52) (some (.t 53)) (some (.t 54)), none⟩,
    ⟨(some 7), .mv (.t 55), none⟩])
  (.seq
  (.reg 0 none [
    ⟨(some 56), .mv (.t 5), none⟩,
    ⟨(some 57), .mv (.t 6), none⟩,
    ⟨(some 58), .bin false .sub (.t 56) (.t 57), none⟩,
    ⟨(some 59), .faddr 2 (.t 4), none⟩,
    ⟨none, .store 1 (.t 59) (.t 58), none⟩])
  (.seq
  (.seq
  (.reg 69 none [
    ⟨(some 60), .mv (.t 5), none⟩,
    ⟨(some 61), .mv (.t 0), none⟩,
    ⟨(some 62), .lenS (.t 61), none⟩,
    ⟨(some 63), .bin false .lss (.t 60) (.t 62), none⟩,
    ⟨(some 64), .mv (.t 63), none⟩,
    ⟨(some 65), .mv (.t 0), some (64, true)⟩,
    ⟨(some 66), .mv (.t 5), some (64, true)⟩,
    ⟨(some 67), .index (.t 65) (.t 66), some (64, true)⟩,
    ⟨(some 68), .bin false .eql (.t 67) (.v (.int .u8 46)), some (64, true)⟩,
    ⟨(some 69), .pick (.t 64) (.t 68) (.v (.bool false)), none⟩])
  (.cond (.t 69)
    (.seq
    (.reg 0 none [
      ⟨(some 70), .faddr 5 (.t 4), none⟩,
      ⟨none, .store 1 (.t 70) (.v (.bool false)), none⟩])
    (.seq
    (.reg 8 none [
      ⟨(some 71), .mv (.t 0), none⟩,
      ⟨(some 72), .mv (.t 5), none⟩,
      ⟨(some 73), .bin false .add (.t 72) (.v (.int .i64 1)), none⟩,
      ⟨(some 74), .call 53 [(.t 71), (.t 73)], none⟩,
      ⟨(some 8), .mv (.t 74), none⟩])
    (.seq
    (.seq
    (.reg 78 none [
      ⟨(some 75), .mv (.t 8), none⟩,
      ⟨(some 76), .mv (.t 5), none⟩,
      ⟨(some 77), .bin false .add (.t 76) (.v (.int .i64 1)), none⟩,
      ⟨(some 78), .bin false .eql (.t 75) (.t 77), none⟩])
    (.cond (.t 78)
      (.seq
      (.reg 3 none [
        ⟨(some 79), .load (some 7) (.t 4), none⟩,
        ⟨none, .store 7 (.t 2) (.t 79), none⟩,
        ⟨(some 3), .mv (.v (.bool false)), none⟩])
      .ret)
      .skip))
    (.seq
    (.reg 7 none [
      ⟨(some 80), .mv (.t 7), none⟩,
      ⟨(some 81), .mv (.t 0), none⟩,
      ⟨(some 82), .mv (.t 5), none⟩,
      ⟨(some 83), .bin false .add (.t 82) (.v (.int .i64 1)), none⟩,
      ⟨(some 84), .mv (.t 8), none⟩,
      ⟨(some 85), .sub none (.t 81) (some (.t 83)) (some (.t 84)), none⟩,
      ⟨(some 86), .bin false .add (.t 80) (.t 85), none⟩,
      ⟨(some 7), .mv (.t 86), none⟩])
    (.reg 5 none [
      ⟨(some 87), .mv (.t 8), none⟩,
      ⟨(some 5), .mv (.t 87), none⟩])))))
    .skip))
  (.seq
  (.seq
  (.reg 103 none [
    ⟨(some 88), .mv (.t 5), none⟩,
    ⟨(some 89), .mv (.t 0), none⟩,
    ⟨(some 90), .lenS (.t 89), none⟩,
    ⟨(some 91), .bin false .lss (.t 88) (.t 90), none⟩,
    ⟨(some 92), .mv (.t 91), none⟩,
    ⟨(some 93), .mv (.t 0), some (92, true)⟩,
    ⟨(some 94), .mv (.t 5), some (92, true)⟩,
    ⟨(some 95), .index (.t 93) (.t 94), some (92, true)⟩,
    ⟨(some 96), .bin false .eql (.t 95) (.v (.int .u8 101)), some (92, true)⟩,
    ⟨(some 97), .mv (.t 96), some (92, true)⟩,
    ⟨(some 98), .mv (.t 0), some (97, false)⟩,
    ⟨(some 99), .mv (.t 5), some (97, false)⟩,
    ⟨(some 100), .index (.t 98) (.t 99), some (97, false)⟩,
    ⟨(some 101), .bin false .eql (.t 100) (.v (.int .u8 69)), some (97, false)⟩,
    ⟨(some 102), .pick (.t 97) (.v (.bool true)) (.t 101), some (92, true)⟩,
    ⟨(some 103), .pick (.t 92) (.t 102) (.v (.bool false)), none⟩])
  (.cond (.t 103)
    (.seq
    (.reg 0 none [
      ⟨(some 104), .faddr 5 (.t 4), none⟩,
      ⟨none, .store 1 (.t 104) (.v (.bool false)), none⟩])
    (.seq
    (.reg 5 none [
      ⟨(some 105), .mv (.t 5), none⟩,
      ⟨(some 106), .bin false .add (.t 105) (.v (.int .i64 1)), none⟩,
      ⟨(some 5), .mv (.t 106), none⟩])
    (.seq
    (.seq
    (.reg 122 none [
      ⟨(some 107), .mv (.t 5), none⟩,
      ⟨(some 108), .mv (.t 0), none⟩,
      ⟨(some 109), .lenS (.t 108), none⟩,
      ⟨(some 110), .bin false .lss (.t 107) (.t 109), none⟩,
      ⟨(some 111), .mv (.t 110), none⟩,
      ⟨(some 112), .mv (.t 0), some (111, true)⟩,
      ⟨(some 113), .mv (.t 5), some (111, true)⟩,
      ⟨(some 114), .index (.t 112) (.t 113), some (111, true)⟩,
      ⟨(some 115), .bin false .eql (.t 114) (.v (.int .u8 43)), some (111, true)⟩,
      ⟨(some 116), .mv (.t 115), some (111, true)⟩,
      ⟨(some 117), .mv (.t 0), some (116, false)⟩,
      ⟨(some 118), .mv (.t 5), some (116, false)⟩,
      ⟨(some 119), .index (.t 117) (.t 118), some (116, false)⟩,
      ⟨(some 120), .bin false .eql (.t 119) (.v (.int .u8 45)), some (116, false)⟩,
      ⟨(some 121), .pick (.t 116) (.v (.bool true)) (.t 120), some (111, true)⟩,
      ⟨(some 122), .pick (.t 111) (.t 121) (.v (.bool false)), none⟩])
    (.cond (.t 122)
      (.seq
      (.reg 0 none [
        ⟨(some 123), .mv (.t 0), none⟩,
        ⟨(some 124), .mv (.t 5), none⟩,
        ⟨(some 125), .index (.t 123) (.t 124), none⟩,
        ⟨(some 126), .bin false .eql (.t 125) (.v (.int .u8 45)), none⟩,
        ⟨(some 127), .faddr 3 (.t 4), none⟩,
        ⟨none, .store 1 (.t 127) (.t 126), none⟩])
      (.reg 5 none [
        ⟨(some 128), .mv (.t 5), none⟩,
        ⟨(some 129), .bin false .add (.t 128) (.v (.int .i64 1)), none⟩,
        ⟨(some 5), .mv (.t 129), none⟩]))
      .skip))
    (.seq
    (.reg 9 none [
      ⟨(some 130), .mv (.t 0), none⟩,
      ⟨(some 131), .mv (.t 5), none⟩,
      ⟨(some 132), .call 53 [(.t 130), (.t 131)], none⟩,
      ⟨(some 9), .mv (.t 132), none⟩])
    (.seq
    (.seq
    (.reg 135 none [
      ⟨(some 133), .mv (.t 9), none⟩,
      ⟨(some 134), .mv (.t 5), none⟩,
      ⟨(some 135), .bin false .eql (.t 133) (.t 134), none⟩])
    (.cond (.t 135)
      (.seq
      (.reg 3 none [
        ⟨(some 136), .load (some 7) (.t 4), none⟩,
        ⟨none, .store 7 (.t 2) (.t 136), none⟩,
        ⟨(some 3), .mv (.v (.bool false)), none⟩])
      .ret)
      .skip))
    (.seq
    (.seq
    (.reg 10 none [
      ⟨(some 137), .mv (.t 5), none⟩,
      ⟨(some 10), .mv (.t 137), none⟩])
    (.block 0
      (.loop
        (.seq
        (.seq
        (.reg 140 none [
          ⟨(some 138), .mv (.t 10), none⟩,
          ⟨(some 139), .mv (.t 9), none⟩,
          ⟨(some 140), .bin false .lss (.t 138) (.t 139), none⟩])
        (.cond (.t 140)
          .skip
          (.exit 0)))
        (.seq
        (.block 1
          (.seq
          (.reg 152 none [
            ⟨(some 143), .mv (.t 0), none⟩,
            ⟨(some 144), .mv (.t 10), none⟩,
            ⟨(some 145), .index (.t 143) (.t 144), none⟩,
            ⟨(some 146), .bin false .neq (.t 145) (.v (.int .u8 48)), none⟩,
            ⟨(some 147), .mv (.t 146), none⟩,
            ⟨(some 148), .faddr 4 (.t 4), some (147, false)⟩,
            ⟨(some 149), .load none (.t 148), some (147, false)⟩,
            ⟨(some 150), .len (.t 149), some (147, false)⟩,
            ⟨(some 151), .bin false .gtr (.t 150) (.v (.int .i64 0)), some (147, false)⟩,
            ⟨(some 152), .pick (.t 147) (.v (.bool true)) (.t 151), none⟩])
          (.cond (.t 152)
            (.reg 0 (some []) [
              ⟨(some 153), .faddr 4 (.t 4), none⟩,
              ⟨(some 154), .load none (.t 153), none⟩,
              ⟨(some 155), .mv (.t 0), none⟩,
              ⟨(some 156), .mv (.t 10), none⟩,
              ⟨(some 157), .index (.t 155) (.t 156), none⟩,
              ⟨(some 158), .bin false .sub (.t 157) (.v (.int .u8 48)), none⟩,
              ⟨(some 159), .conv false .i64 (.t 158), none⟩,
              ⟨(some 160), .bslice 3 1 1 [.int .i64 0] [(0, (.t 159))], none⟩,
              ⟨(some 161), .append 3 1 8 [.int .i64 0] (.t 154) (.t 160), none⟩,
              ⟨(some 162), .faddr 4 (.t 4), none⟩,
              ⟨none, .store 1 (.t 162) (.t 161), none⟩])
            .skip)))
        (.reg 10 none [
          ⟨(some 141), .mv (.t 10), none⟩,
          ⟨(some 142), .bin false .add (.t 141) (.v (.int .i64 1)), none⟩,
          ⟨(some 10), .mv (.t 142), none⟩]))))))
    (.reg 5 none [
      ⟨(some 163), .mv (.t 9), none⟩,
      ⟨(some 5), .mv (.t 163), none⟩])))))))
    .skip))
  (.seq
  (.seq
  (.reg 167 none [
    ⟨(some 164), .mv (.t 5), none⟩,
    ⟨(some 165), .mv (.t 0), none⟩,
    ⟨(some 166), .lenS (.t 165), none⟩,
    ⟨(some 167), .bin false .neq (.t 164) (.t 166), none⟩])
  (.cond (.t 167)
    (.seq
    (.reg 3 none [
      ⟨(some 168), .load (some 7) (.t 4), none⟩,
      ⟨none, .store 7 (.t 2) (.t 168), none⟩,
      ⟨(some 3), .mv (.v (.bool false)), none⟩])
    .ret)
    .skip))
  (.seq
  (.seq
  (.reg 11 none [
    ⟨(some 11), .mv (.v (.int .i64 0)), none⟩])
  (.block 2
    (.loop
      (.seq
      (.seq
      (.reg 172 none [
        ⟨(some 169), .mv (.t 11), none⟩,
        ⟨(some 170), .mv (.t 7), none⟩,
        ⟨(some 171), .lenS (.t 170), none⟩,
        ⟨(some 172), .bin false .lss (.t 169) (.t 171), none⟩])
      (.cond (.t 172)
        .skip
        (.exit 2)))
      (.seq
      (.block 3
        (.seq
        (.reg 12 none [
          ⟨(some 175), .mv (.t 7), none⟩,
          ⟨(some 176), .mv (.t 11), none⟩,
          ⟨(some 177), .index (.t 175) (.t 176), none⟩,
          ⟨(some 178), .bin false .sub (.t 177) (.v (.int .u8 48)), none⟩,
          ⟨(some 179), .conv false .i64 (.t 178), none⟩,
          ⟨(some 12), .mv (.t 179), none⟩])
        (.seq
        (.reg 187 none [
          ⟨(some 180), .mv (.t 12), none⟩,
          ⟨(some 181), .bin false .neq (.t 180) (.v (.int .i64 0)), none⟩,
          ⟨(some 182), .mv (.t 181), none⟩,
          ⟨(some 183), .faddr 1 (.t 4), some (182, false)⟩,
          ⟨(some 184), .load none (.t 183), some (182, false)⟩,
          ⟨(some 185), .len (.t 184), some (182, false)⟩,
          ⟨(some 186), .bin false .gtr (.t 185) (.v (.int .i64 0)), some (182, false)⟩,
          ⟨(some 187), .pick (.t 182) (.v (.bool true)) (.t 186), none⟩])
        (.cond (.t 187)
          (.reg 0 none [
            ⟨(some 188), .faddr 1 (.t 4), none⟩,
            ⟨(some 189), .load none (.t 188), none⟩,
            ⟨(some 190), .mv (.t 12), none⟩,
            ⟨(some 191), .bslice 3 1 1 [.int .i64 0] [(0, (.t 190))], none⟩,
            ⟨(some 192), .append 3 1 8 [.int .i64 0] (.t 189) (.t 191), none⟩,
            ⟨(some 193), .faddr 1 (.t 4), none⟩,
            ⟨none, .store 1 (.t 193) (.t 192), none⟩])
          (.reg 0 none [
            ⟨(some 194), .faddr 2 (.t 4), none⟩,
            ⟨(some 195), .load none (.t 194), none⟩,
            ⟨(some 196), .bin false .sub (.t 195) (.v (.int .i64 1)), none⟩,
            ⟨(some 197), .faddr 2 (.t 4), none⟩,
            ⟨none, .store 1 (.t 197) (.t 196), none⟩])))))
      (.reg 11 none [
        ⟨(some 173), .mv (.t 11), none⟩,
        ⟨(some 174), .bin false .add (.t 173) (.v (.int .i64 1)), none⟩,
        ⟨(some 11), .mv (.t 174), none⟩]))))))
  (.seq
  (.block 4
    (.loop
      (.seq
      (.seq
      (.reg 212 none [
        ⟨(some 198), .faddr 1 (.t 4), none⟩,
        ⟨(some 199), .load none (.t 198), none⟩,
        ⟨(some 200), .len (.t 199), none⟩,
        ⟨(some 201), .bin false .gtr (.t 200) (.v (.int .i64 0)), none⟩,
        ⟨(some 202), .mv (.t 201), none⟩,
        ⟨(some 203), .faddr 1 (.t 4), some (202, true)⟩,
        ⟨(some 204), .load none (.t 203), some (202, true)⟩,
        ⟨(some 205), .faddr 1 (.t 4), some (202, true)⟩,
        ⟨(some 206), .load none (.t 205), some (202, true)⟩,
        ⟨(some 207), .len (.t 206), some (202, true)⟩,
        ⟨(some 208), .bin false .sub (.t 207) (.v (.int .i64 1)), some (202, true)⟩,
        ⟨(some 209), .iaddr 1 (.t 204) (.t 208), some (202, true)⟩,
        ⟨(some 210), .load none (.t 209), some (202, true)⟩,
        ⟨(some 211), .bin false .eql (.t 210) (.v (.int .i64 0)), some (202, true)⟩,
        ⟨(some 212), .pick (.t 202) (.t 211) (.v (.bool false)), none⟩])
      (.cond (.t 212)
        .skip
        (.exit 4)))
      (.block 5
        (.reg 0 none [
          ⟨(some 213), .faddr 1 (.t 4), none⟩,
          ⟨(some 214), .load none (.t 213), none⟩,
          ⟨(some 215), .faddr 1 (.t 4), none⟩,
          ⟨(some 216), .load none (.t 215), none⟩,
          ⟨(some 217), .len (.t 216), none⟩,
          ⟨(some 218), .bin false .sub (.t 217) (.v (.int .i64 1)), none⟩,
          ⟨(some 219), .sub (some 1) (.t 214) none (some (.t 218)), none⟩,
          ⟨(some 220), .faddr 1 (.t 4), none⟩,
          ⟨none, .store 1 (.t 220) (.t 219), none⟩])))))
  (.seq
  (.reg 3 none [
    ⟨(some 221), .load (some 7) (.t 4), none⟩,
    ⟨none, .store 7 (.t 2) (.t 221), none⟩,
    ⟨(some 3), .mv (.v (.bool true)), none⟩])
  .ret))))))))))))))))
theorem Read_chk : chk Tryd.prog 37 [] = some (Read_ic, [.cell 2 (some 7), .tmp 3], 222) := by kernel_rfl

abbrev sv (v : Value) : S0 := .val v
def numL (m : Bool) (d : S0) (off : Int) (down : Bool) (e : S0) (plain : Bool) (t : ByteArray) : List S0 :=
  [.val (.bool m), d, .val (.int .i64 off), .val (.bool down), e, .val (.bool plain), .val (.string t)]
def nilS : S0 := .val (.slice none 0 0)

def SliceP (hp : List SB) (d : S0) (l : List Int) : Prop := (d = nilS ∧ l = []) ∨ ∃ i, d = .own i ∧ hp[i]? = some (.row .i64 3 l)
/-- What Read hands back, and the two lists. -/
def ReadPost (s : ByteArray) (r : SV) (hp : List SB) : Prop :=
  ∃ d e, r = .tup [.agg (numL (readAll s).minus d (readAll s).off (readAll s).down e (readAll s).plain (readAll s).text), .o (.val (.bool (readOk s)))] ∧
    SliceP hp d (readAll s).digits ∧ SliceP hp e (readAll s).exp ∧ ∀ i, d = .own i → e ≠ .own i

theorem dV_zero (s : ByteArray) (i : Nat) : dV s i = 0 ↔ bAt s i = 48 := by
  have := bAt_range s i
  unfold dV
  omega
theorem dV_range (s : ByteArray) (i : Nat) : 0 ≤ dV s i ∧ dV s i ≤ 255 := by unfold dV; omega

set_option maxRecDepth 100000 in
theorem Read_walk (s : ByteArray) (hsz : s.size ≤ 1000000000) (w : World) (hG : ∀ f C, tbl [(53, word many_w)] f = some C → Valid Tryd.prog f C) :
    VC ⟨⟨Tryd.prog, 222, noX, w, 0, fun _ => undef⟩, tbl [(53, word many_w)], [], 13, [.cell 2 (some 7), .tmp 3], ReadPost s, hG⟩ [.code Read_ic] ⟨argSl 0 [valSV (.string s)], []⟩ := by
  simp only [Read_ic, valSV, argSl]
  have hb := bAt_range s 0
  have hA := atA_le s
  have hAe : atA s = if bAt s 0 = 45 then 1 else 0 := rfl
  repeat' (first
    | with_reducible refine VC.seq ?_
    | with_reducible refine VC.skip ?_
    | with_reducible refine VC.block ?_
    | with_reducible refine VC.blk ?_
    | (refine VC.exit (by rfl) ?_)
    | (with_reducible refine VC.reg ?_; simp only [cond_or, cond_and, implies_true, imp_self, decide_eq_true_eq, decide_eq_false_iff_not, runOps, runP, actOf, argE, argsE, bound, getE, putD, putE, putR, pruneE, owe, ret1, fit, quot, remd, binR, unR, beqR, beq_self_eq_true, pickB, fillL, setL, SV.cells, vals, subList, cellsLoad, rowLoad, loadR, storeR, faddrR, iaddrR, subR, srcL, apart0, appendR, rowLen, etOf, decs, fieldR, loOf, dstOk, allOne, S0.one, Value.oneCell', ET.enc, ET.sz, ET.dec, ET.dft, word_app, wordT_app, wordS_app, tbl_nil, tbl_cons, Int.toNat_natCast, Int.toNat_zero, Nat.reduceBEq, Nat.reduceBNe, Nat.blt, Nat.ble, cond_true, cond_false, true_and, and_true, forall_const, true_implies, decide_true, decide_false, Bool.and_true, Bool.and_false, Bool.true_and, Bool.false_and, Bool.or_false, Bool.or_true, Bool.true_or, Bool.false_or, reduceCtorEq, List.length_cons, List.length_nil, List.append_nil, List.nil_append, List.cons_append, List.getElem?_cons_zero, List.getElem?_cons_succ, List.getElem?_nil, tupSV, List.map_cons, List.map_nil, List.filterMap_cons, List.filterMap_nil, List.set_cons_zero, List.set_cons_succ, List.drop_zero, List.drop_succ_cons, List.take_succ_cons, List.take_zero, List.take_nil, List.drop_nil, Nat.reduceAdd, Nat.zero_add, Nat.add_zero, Nat.reduceMul, Nat.reduceLT, Nat.reduceLeDiff, bne_self_eq_false, bne_iff_ne, beq_self_eq_true, List.replicate, List.flatten_cons, List.flatten_nil, dite_true, dite_false])
    | (with_reducible refine VC.regD ?_; simp only [runDraw, staticB, S0.ltB, cond_or, cond_and, implies_true, imp_self, decide_eq_true_eq, decide_eq_false_iff_not, runOps, runP, actOf, argE, argsE, bound, getE, putD, putE, putR, pruneE, owe, ret1, fit, quot, remd, binR, unR, beqR, beq_self_eq_true, pickB, fillL, setL, SV.cells, vals, subList, cellsLoad, rowLoad, loadR, storeR, faddrR, iaddrR, subR, srcL, apart0, appendR, rowLen, etOf, decs, fieldR, loOf, dstOk, allOne, S0.one, Value.oneCell', ET.enc, ET.sz, ET.dec, ET.dft, word_app, wordT_app, wordS_app, tbl_nil, tbl_cons, Int.toNat_natCast, Int.toNat_zero, Nat.reduceBEq, Nat.reduceBNe, Nat.blt, Nat.ble, cond_true, cond_false, true_and, and_true, forall_const, true_implies, decide_true, decide_false, Bool.and_true, Bool.and_false, Bool.true_and, Bool.false_and, Bool.or_false, Bool.or_true, Bool.true_or, Bool.false_or, reduceCtorEq, List.length_cons, List.length_nil, List.append_nil, List.nil_append, List.cons_append, List.getElem?_cons_zero, List.getElem?_cons_succ, List.getElem?_nil, tupSV, List.map_cons, List.map_nil, List.filterMap_cons, List.filterMap_nil, List.set_cons_zero, List.set_cons_succ, List.drop_zero, List.drop_succ_cons, List.take_succ_cons, List.take_zero, List.take_nil, List.drop_nil, Nat.reduceAdd, Nat.zero_add, Nat.add_zero, Nat.reduceMul, Nat.reduceLT, Nat.reduceLeDiff, bne_self_eq_false, bne_iff_ne, beq_self_eq_true, List.replicate, List.flatten_cons, List.flatten_nil, dite_true, dite_false])
    | (with_reducible refine VC.ret ?_; simp only [FinOK, resE, rvE, mkRes, cond_or, cond_and, implies_true, imp_self, decide_eq_true_eq, decide_eq_false_iff_not, runOps, runP, actOf, argE, argsE, bound, getE, putD, putE, putR, pruneE, owe, ret1, fit, quot, remd, binR, unR, beqR, beq_self_eq_true, pickB, fillL, setL, SV.cells, vals, subList, cellsLoad, rowLoad, loadR, storeR, faddrR, iaddrR, subR, srcL, apart0, appendR, rowLen, etOf, decs, fieldR, loOf, dstOk, allOne, S0.one, Value.oneCell', ET.enc, ET.sz, ET.dec, ET.dft, word_app, wordT_app, wordS_app, tbl_nil, tbl_cons, Int.toNat_natCast, Int.toNat_zero, Nat.reduceBEq, Nat.reduceBNe, Nat.blt, Nat.ble, cond_true, cond_false, true_and, and_true, forall_const, true_implies, decide_true, decide_false, Bool.and_true, Bool.and_false, Bool.true_and, Bool.false_and, Bool.or_false, Bool.or_true, Bool.true_or, Bool.false_or, reduceCtorEq, List.length_cons, List.length_nil, List.append_nil, List.nil_append, List.cons_append, List.getElem?_cons_zero, List.getElem?_cons_succ, List.getElem?_nil, tupSV, List.map_cons, List.map_nil, List.filterMap_cons, List.filterMap_nil, List.set_cons_zero, List.set_cons_succ, List.drop_zero, List.drop_succ_cons, List.take_succ_cons, List.take_zero, List.take_nil, List.drop_nil, Nat.reduceAdd, Nat.zero_add, Nat.add_zero, Nat.reduceMul, Nat.reduceLT, Nat.reduceLeDiff, bne_self_eq_false, bne_iff_ne, beq_self_eq_true, List.replicate, List.flatten_cons, List.flatten_nil, dite_true, dite_false])
    | with_reducible refine VC.mid ?_
    | (refine And.intro (by first | omega | (unfold InI64; omega) | (intros; simp_all; done) | (intros; simp_all [InI64, InI32]; omega)) ?_))
  refine VC.cutW (fun _ : Unit => ⟨[(0, True, valSV (.string s)), (2, True, .c (.o (.hd 0 0))), (3, True, valSV (.bool false)), (4, True, .c (.o (.hd 1 0))), (5, True, valSV (.int .i64 (atA s)))],
    [.cells 55 (numL false nilS 0 false nilS false ⟨#[]⟩), .cells 55 (numL (decide (bAt s 0 = 45)) nilS 0 false nilS true ⟨#[]⟩)]⟩) (fun _ => True) ?_ ?_
  · repeat' (first
    | with_reducible refine VC.seq ?_
    | with_reducible refine VC.skip ?_
    | with_reducible refine VC.block ?_
    | with_reducible refine VC.blk ?_
    | (refine VC.exit (by rfl) ?_)
    | (with_reducible refine VC.reg ?_; simp only [cond_or, cond_and, implies_true, imp_self, decide_eq_true_eq, decide_eq_false_iff_not, runOps, runP, actOf, argE, argsE, bound, getE, putD, putE, putR, pruneE, owe, ret1, fit, quot, remd, binR, unR, beqR, beq_self_eq_true, pickB, fillL, setL, SV.cells, vals, subList, cellsLoad, rowLoad, loadR, storeR, faddrR, iaddrR, subR, srcL, apart0, appendR, rowLen, etOf, decs, fieldR, loOf, dstOk, allOne, S0.one, Value.oneCell', ET.enc, ET.sz, ET.dec, ET.dft, word_app, wordT_app, wordS_app, tbl_nil, tbl_cons, Int.toNat_natCast, Int.toNat_zero, Nat.reduceBEq, Nat.reduceBNe, Nat.blt, Nat.ble, cond_true, cond_false, true_and, and_true, forall_const, true_implies, decide_true, decide_false, Bool.and_true, Bool.and_false, Bool.true_and, Bool.false_and, Bool.or_false, Bool.or_true, Bool.true_or, Bool.false_or, reduceCtorEq, List.length_cons, List.length_nil, List.append_nil, List.nil_append, List.cons_append, List.getElem?_cons_zero, List.getElem?_cons_succ, List.getElem?_nil, tupSV, List.map_cons, List.map_nil, List.filterMap_cons, List.filterMap_nil, List.set_cons_zero, List.set_cons_succ, List.drop_zero, List.drop_succ_cons, List.take_succ_cons, List.take_zero, List.take_nil, List.drop_nil, Nat.reduceAdd, Nat.zero_add, Nat.add_zero, Nat.reduceMul, Nat.reduceLT, Nat.reduceLeDiff, bne_self_eq_false, bne_iff_ne, beq_self_eq_true, List.replicate, List.flatten_cons, List.flatten_nil, dite_true, dite_false])
    | (with_reducible refine VC.regD ?_; simp only [runDraw, staticB, S0.ltB, cond_or, cond_and, implies_true, imp_self, decide_eq_true_eq, decide_eq_false_iff_not, runOps, runP, actOf, argE, argsE, bound, getE, putD, putE, putR, pruneE, owe, ret1, fit, quot, remd, binR, unR, beqR, beq_self_eq_true, pickB, fillL, setL, SV.cells, vals, subList, cellsLoad, rowLoad, loadR, storeR, faddrR, iaddrR, subR, srcL, apart0, appendR, rowLen, etOf, decs, fieldR, loOf, dstOk, allOne, S0.one, Value.oneCell', ET.enc, ET.sz, ET.dec, ET.dft, word_app, wordT_app, wordS_app, tbl_nil, tbl_cons, Int.toNat_natCast, Int.toNat_zero, Nat.reduceBEq, Nat.reduceBNe, Nat.blt, Nat.ble, cond_true, cond_false, true_and, and_true, forall_const, true_implies, decide_true, decide_false, Bool.and_true, Bool.and_false, Bool.true_and, Bool.false_and, Bool.or_false, Bool.or_true, Bool.true_or, Bool.false_or, reduceCtorEq, List.length_cons, List.length_nil, List.append_nil, List.nil_append, List.cons_append, List.getElem?_cons_zero, List.getElem?_cons_succ, List.getElem?_nil, tupSV, List.map_cons, List.map_nil, List.filterMap_cons, List.filterMap_nil, List.set_cons_zero, List.set_cons_succ, List.drop_zero, List.drop_succ_cons, List.take_succ_cons, List.take_zero, List.take_nil, List.drop_nil, Nat.reduceAdd, Nat.zero_add, Nat.add_zero, Nat.reduceMul, Nat.reduceLT, Nat.reduceLeDiff, bne_self_eq_false, bne_iff_ne, beq_self_eq_true, List.replicate, List.flatten_cons, List.flatten_nil, dite_true, dite_false])
    | (with_reducible refine VC.ret ?_; simp only [FinOK, resE, rvE, mkRes, cond_or, cond_and, implies_true, imp_self, decide_eq_true_eq, decide_eq_false_iff_not, runOps, runP, actOf, argE, argsE, bound, getE, putD, putE, putR, pruneE, owe, ret1, fit, quot, remd, binR, unR, beqR, beq_self_eq_true, pickB, fillL, setL, SV.cells, vals, subList, cellsLoad, rowLoad, loadR, storeR, faddrR, iaddrR, subR, srcL, apart0, appendR, rowLen, etOf, decs, fieldR, loOf, dstOk, allOne, S0.one, Value.oneCell', ET.enc, ET.sz, ET.dec, ET.dft, word_app, wordT_app, wordS_app, tbl_nil, tbl_cons, Int.toNat_natCast, Int.toNat_zero, Nat.reduceBEq, Nat.reduceBNe, Nat.blt, Nat.ble, cond_true, cond_false, true_and, and_true, forall_const, true_implies, decide_true, decide_false, Bool.and_true, Bool.and_false, Bool.true_and, Bool.false_and, Bool.or_false, Bool.or_true, Bool.true_or, Bool.false_or, reduceCtorEq, List.length_cons, List.length_nil, List.append_nil, List.nil_append, List.cons_append, List.getElem?_cons_zero, List.getElem?_cons_succ, List.getElem?_nil, tupSV, List.map_cons, List.map_nil, List.filterMap_cons, List.filterMap_nil, List.set_cons_zero, List.set_cons_succ, List.drop_zero, List.drop_succ_cons, List.take_succ_cons, List.take_zero, List.take_nil, List.drop_nil, Nat.reduceAdd, Nat.zero_add, Nat.add_zero, Nat.reduceMul, Nat.reduceLT, Nat.reduceLeDiff, bne_self_eq_false, bne_iff_ne, beq_self_eq_true, List.replicate, List.flatten_cons, List.flatten_nil, dite_true, dite_false])
    | with_reducible refine VC.mid ?_
    | (refine And.intro (by first | omega | (unfold InI64; omega) | (intros; simp_all; done) | (intros; simp_all [InI64, InI32]; omega)) ?_)
    | (refine VC.condT (by rfl) (fun h => ?_) (fun h => ?_) <;> (try (cases h; done)) <;> (try simp only [decide_eq_true_eq, decide_eq_false_iff_not, Bool.and_eq_true, Bool.or_eq_true, Bool.and_eq_false_iff, Bool.or_eq_false_iff, Bool.not_eq_true', Bool.not_eq_false', not_true_eq_false, not_false_eq_true, or_false, or_true, false_or, true_or, and_true, true_and, and_false, false_and] at h) <;> (try (simp only [*, reduceCtorEq] at h; done)) <;> (try (exfalso; omega; done))))
    all_goals
      refine ⟨(), [0, 1], [], ?_⟩
      simp only [numL, nilS, Weak, weakSl, weakHp, sameSB, eqSV, eqSC, eqL, eqS0, nils,  SV.ren, SC.ren, S0.ren, SV.ltB, SC.ltB, S0.ltB, nodupB, List.contains_nil, List.contains_cons, Bool.not_false, Bool.not_true, List.take_nil, List.range_zero, List.all_nil, List.all_cons, List.getD_cons_zero, List.getD_cons_succ, dite_true, valSV, cond_or, cond_and, implies_true, imp_self, decide_eq_true_eq, decide_eq_false_iff_not, runOps, runP, actOf, argE, argsE, bound, getE, putD, putE, putR, pruneE, owe, ret1, fit, quot, remd, binR, unR, beqR, beq_self_eq_true, pickB, fillL, setL, SV.cells, vals, subList, cellsLoad, rowLoad, loadR, storeR, faddrR, iaddrR, subR, srcL, apart0, appendR, rowLen, etOf, decs, fieldR, loOf, dstOk, allOne, S0.one, Value.oneCell', ET.enc, ET.sz, ET.dec, ET.dft, word_app, wordT_app, wordS_app, tbl_nil, tbl_cons, Int.toNat_natCast, Int.toNat_zero, Nat.reduceBEq, Nat.reduceBNe, Nat.blt, Nat.ble, cond_true, cond_false, true_and, and_true, forall_const, true_implies, decide_true, decide_false, Bool.and_true, Bool.and_false, Bool.true_and, Bool.false_and, Bool.or_false, Bool.or_true, Bool.true_or, Bool.false_or, reduceCtorEq, List.length_cons, List.length_nil, List.append_nil, List.nil_append, List.cons_append, List.getElem?_cons_zero, List.getElem?_cons_succ, List.getElem?_nil, tupSV, List.map_cons, List.map_nil, List.filterMap_cons, List.filterMap_nil, List.set_cons_zero, List.set_cons_succ, List.drop_zero, List.drop_succ_cons, List.take_succ_cons, List.take_zero, List.take_nil, List.drop_nil, Nat.reduceAdd, Nat.zero_add, Nat.add_zero, Nat.reduceMul, Nat.reduceLT, Nat.reduceLeDiff, bne_self_eq_false, bne_iff_ne, beq_self_eq_true, List.replicate, List.flatten_cons, List.flatten_nil, dite_true, dite_false]
    · rw [hAe, if_pos h.2]; simp [h.2]
    · have : ¬ bAt s 0 = 45 := by
        rcases h with h | h
        · intro e
          have := lt_of_bAt (s := s) (i := 0) (by omega)
          omega
        · exact h
      rw [hAe, if_neg this]; simp [this]
  intro _ _
  have hAB := atA_le_atB s
  have hB := atB_le s
  have hBe : manyS s (atA s) = atB s := rfl
  simp only [valSV, numL, nilS]
  repeat' (first
    | with_reducible refine VC.seq ?_
    | with_reducible refine VC.skip ?_
    | with_reducible refine VC.block ?_
    | with_reducible refine VC.blk ?_
    | (refine VC.exit (by rfl) ?_)
    | (with_reducible refine VC.reg ?_; simp only [cond_or, cond_and, implies_true, imp_self, decide_eq_true_eq, decide_eq_false_iff_not, runOps, runP, actOf, argE, argsE, bound, getE, putD, putE, putR, pruneE, owe, ret1, fit, quot, remd, binR, unR, beqR, beq_self_eq_true, pickB, fillL, setL, SV.cells, vals, subList, cellsLoad, rowLoad, loadR, storeR, faddrR, iaddrR, subR, srcL, apart0, appendR, rowLen, etOf, decs, fieldR, loOf, dstOk, allOne, S0.one, Value.oneCell', ET.enc, ET.sz, ET.dec, ET.dft, word_app, wordT_app, wordS_app, tbl_nil, tbl_cons, Int.toNat_natCast, Int.toNat_zero, Nat.reduceBEq, Nat.reduceBNe, Nat.blt, Nat.ble, cond_true, cond_false, true_and, and_true, forall_const, true_implies, decide_true, decide_false, Bool.and_true, Bool.and_false, Bool.true_and, Bool.false_and, Bool.or_false, Bool.or_true, Bool.true_or, Bool.false_or, reduceCtorEq, List.length_cons, List.length_nil, List.append_nil, List.nil_append, List.cons_append, List.getElem?_cons_zero, List.getElem?_cons_succ, List.getElem?_nil, tupSV, List.map_cons, List.map_nil, List.filterMap_cons, List.filterMap_nil, List.set_cons_zero, List.set_cons_succ, List.drop_zero, List.drop_succ_cons, List.take_succ_cons, List.take_zero, List.take_nil, List.drop_nil, Nat.reduceAdd, Nat.zero_add, Nat.add_zero, Nat.reduceMul, Nat.reduceLT, Nat.reduceLeDiff, bne_self_eq_false, bne_iff_ne, beq_self_eq_true, List.replicate, List.flatten_cons, List.flatten_nil, dite_true, dite_false])
    | (with_reducible refine VC.regD ?_; simp only [runDraw, staticB, S0.ltB, cond_or, cond_and, implies_true, imp_self, decide_eq_true_eq, decide_eq_false_iff_not, runOps, runP, actOf, argE, argsE, bound, getE, putD, putE, putR, pruneE, owe, ret1, fit, quot, remd, binR, unR, beqR, beq_self_eq_true, pickB, fillL, setL, SV.cells, vals, subList, cellsLoad, rowLoad, loadR, storeR, faddrR, iaddrR, subR, srcL, apart0, appendR, rowLen, etOf, decs, fieldR, loOf, dstOk, allOne, S0.one, Value.oneCell', ET.enc, ET.sz, ET.dec, ET.dft, word_app, wordT_app, wordS_app, tbl_nil, tbl_cons, Int.toNat_natCast, Int.toNat_zero, Nat.reduceBEq, Nat.reduceBNe, Nat.blt, Nat.ble, cond_true, cond_false, true_and, and_true, forall_const, true_implies, decide_true, decide_false, Bool.and_true, Bool.and_false, Bool.true_and, Bool.false_and, Bool.or_false, Bool.or_true, Bool.true_or, Bool.false_or, reduceCtorEq, List.length_cons, List.length_nil, List.append_nil, List.nil_append, List.cons_append, List.getElem?_cons_zero, List.getElem?_cons_succ, List.getElem?_nil, tupSV, List.map_cons, List.map_nil, List.filterMap_cons, List.filterMap_nil, List.set_cons_zero, List.set_cons_succ, List.drop_zero, List.drop_succ_cons, List.take_succ_cons, List.take_zero, List.take_nil, List.drop_nil, Nat.reduceAdd, Nat.zero_add, Nat.add_zero, Nat.reduceMul, Nat.reduceLT, Nat.reduceLeDiff, bne_self_eq_false, bne_iff_ne, beq_self_eq_true, List.replicate, List.flatten_cons, List.flatten_nil, dite_true, dite_false])
    | (with_reducible refine VC.ret ?_; simp only [FinOK, resE, rvE, mkRes, cond_or, cond_and, implies_true, imp_self, decide_eq_true_eq, decide_eq_false_iff_not, runOps, runP, actOf, argE, argsE, bound, getE, putD, putE, putR, pruneE, owe, ret1, fit, quot, remd, binR, unR, beqR, beq_self_eq_true, pickB, fillL, setL, SV.cells, vals, subList, cellsLoad, rowLoad, loadR, storeR, faddrR, iaddrR, subR, srcL, apart0, appendR, rowLen, etOf, decs, fieldR, loOf, dstOk, allOne, S0.one, Value.oneCell', ET.enc, ET.sz, ET.dec, ET.dft, word_app, wordT_app, wordS_app, tbl_nil, tbl_cons, Int.toNat_natCast, Int.toNat_zero, Nat.reduceBEq, Nat.reduceBNe, Nat.blt, Nat.ble, cond_true, cond_false, true_and, and_true, forall_const, true_implies, decide_true, decide_false, Bool.and_true, Bool.and_false, Bool.true_and, Bool.false_and, Bool.or_false, Bool.or_true, Bool.true_or, Bool.false_or, reduceCtorEq, List.length_cons, List.length_nil, List.append_nil, List.nil_append, List.cons_append, List.getElem?_cons_zero, List.getElem?_cons_succ, List.getElem?_nil, tupSV, List.map_cons, List.map_nil, List.filterMap_cons, List.filterMap_nil, List.set_cons_zero, List.set_cons_succ, List.drop_zero, List.drop_succ_cons, List.take_succ_cons, List.take_zero, List.take_nil, List.drop_nil, Nat.reduceAdd, Nat.zero_add, Nat.add_zero, Nat.reduceMul, Nat.reduceLT, Nat.reduceLeDiff, bne_self_eq_false, bne_iff_ne, beq_self_eq_true, List.replicate, List.flatten_cons, List.flatten_nil, dite_true, dite_false])
    | with_reducible refine VC.mid ?_
    | (refine And.intro (by first | omega | (unfold InI64; omega) | (intros; simp_all; done) | (intros; simp_all [InI64, InI32]; omega)) ?_))
  simp only [hBe]
  have hbad : badA s = (decide ((atB s : Int) = atA s) || decide (bAt s (atA s) = 48) && decide ((atA s : Int) + 1 < atB s)) := by
    unfold badA
    congr 1
    · rw [decide_eq_decide]; omega
    · congr 1
      rw [decide_eq_decide]; omega
  rw [← hbad]
  cases hbd : badA s
  case true =>
    have hro : readOk s = false := by simp [readOk, hbd]
    repeat' (first
    | with_reducible refine VC.seq ?_
    | with_reducible refine VC.skip ?_
    | with_reducible refine VC.block ?_
    | with_reducible refine VC.blk ?_
    | (refine VC.exit (by rfl) ?_)
    | (with_reducible refine VC.reg ?_; simp only [cond_or, cond_and, implies_true, imp_self, decide_eq_true_eq, decide_eq_false_iff_not, runOps, runP, actOf, argE, argsE, bound, getE, putD, putE, putR, pruneE, owe, ret1, fit, quot, remd, binR, unR, beqR, beq_self_eq_true, pickB, fillL, setL, SV.cells, vals, subList, cellsLoad, rowLoad, loadR, storeR, faddrR, iaddrR, subR, srcL, apart0, appendR, rowLen, etOf, decs, fieldR, loOf, dstOk, allOne, S0.one, Value.oneCell', ET.enc, ET.sz, ET.dec, ET.dft, word_app, wordT_app, wordS_app, tbl_nil, tbl_cons, Int.toNat_natCast, Int.toNat_zero, Nat.reduceBEq, Nat.reduceBNe, Nat.blt, Nat.ble, cond_true, cond_false, true_and, and_true, forall_const, true_implies, decide_true, decide_false, Bool.and_true, Bool.and_false, Bool.true_and, Bool.false_and, Bool.or_false, Bool.or_true, Bool.true_or, Bool.false_or, reduceCtorEq, List.length_cons, List.length_nil, List.append_nil, List.nil_append, List.cons_append, List.getElem?_cons_zero, List.getElem?_cons_succ, List.getElem?_nil, tupSV, List.map_cons, List.map_nil, List.filterMap_cons, List.filterMap_nil, List.set_cons_zero, List.set_cons_succ, List.drop_zero, List.drop_succ_cons, List.take_succ_cons, List.take_zero, List.take_nil, List.drop_nil, Nat.reduceAdd, Nat.zero_add, Nat.add_zero, Nat.reduceMul, Nat.reduceLT, Nat.reduceLeDiff, bne_self_eq_false, bne_iff_ne, beq_self_eq_true, List.replicate, List.flatten_cons, List.flatten_nil, dite_true, dite_false])
    | (with_reducible refine VC.regD ?_; simp only [runDraw, staticB, S0.ltB, cond_or, cond_and, implies_true, imp_self, decide_eq_true_eq, decide_eq_false_iff_not, runOps, runP, actOf, argE, argsE, bound, getE, putD, putE, putR, pruneE, owe, ret1, fit, quot, remd, binR, unR, beqR, beq_self_eq_true, pickB, fillL, setL, SV.cells, vals, subList, cellsLoad, rowLoad, loadR, storeR, faddrR, iaddrR, subR, srcL, apart0, appendR, rowLen, etOf, decs, fieldR, loOf, dstOk, allOne, S0.one, Value.oneCell', ET.enc, ET.sz, ET.dec, ET.dft, word_app, wordT_app, wordS_app, tbl_nil, tbl_cons, Int.toNat_natCast, Int.toNat_zero, Nat.reduceBEq, Nat.reduceBNe, Nat.blt, Nat.ble, cond_true, cond_false, true_and, and_true, forall_const, true_implies, decide_true, decide_false, Bool.and_true, Bool.and_false, Bool.true_and, Bool.false_and, Bool.or_false, Bool.or_true, Bool.true_or, Bool.false_or, reduceCtorEq, List.length_cons, List.length_nil, List.append_nil, List.nil_append, List.cons_append, List.getElem?_cons_zero, List.getElem?_cons_succ, List.getElem?_nil, tupSV, List.map_cons, List.map_nil, List.filterMap_cons, List.filterMap_nil, List.set_cons_zero, List.set_cons_succ, List.drop_zero, List.drop_succ_cons, List.take_succ_cons, List.take_zero, List.take_nil, List.drop_nil, Nat.reduceAdd, Nat.zero_add, Nat.add_zero, Nat.reduceMul, Nat.reduceLT, Nat.reduceLeDiff, bne_self_eq_false, bne_iff_ne, beq_self_eq_true, List.replicate, List.flatten_cons, List.flatten_nil, dite_true, dite_false])
    | (with_reducible refine VC.ret ?_; simp only [FinOK, resE, rvE, mkRes, cond_or, cond_and, implies_true, imp_self, decide_eq_true_eq, decide_eq_false_iff_not, runOps, runP, actOf, argE, argsE, bound, getE, putD, putE, putR, pruneE, owe, ret1, fit, quot, remd, binR, unR, beqR, beq_self_eq_true, pickB, fillL, setL, SV.cells, vals, subList, cellsLoad, rowLoad, loadR, storeR, faddrR, iaddrR, subR, srcL, apart0, appendR, rowLen, etOf, decs, fieldR, loOf, dstOk, allOne, S0.one, Value.oneCell', ET.enc, ET.sz, ET.dec, ET.dft, word_app, wordT_app, wordS_app, tbl_nil, tbl_cons, Int.toNat_natCast, Int.toNat_zero, Nat.reduceBEq, Nat.reduceBNe, Nat.blt, Nat.ble, cond_true, cond_false, true_and, and_true, forall_const, true_implies, decide_true, decide_false, Bool.and_true, Bool.and_false, Bool.true_and, Bool.false_and, Bool.or_false, Bool.or_true, Bool.true_or, Bool.false_or, reduceCtorEq, List.length_cons, List.length_nil, List.append_nil, List.nil_append, List.cons_append, List.getElem?_cons_zero, List.getElem?_cons_succ, List.getElem?_nil, tupSV, List.map_cons, List.map_nil, List.filterMap_cons, List.filterMap_nil, List.set_cons_zero, List.set_cons_succ, List.drop_zero, List.drop_succ_cons, List.take_succ_cons, List.take_zero, List.take_nil, List.drop_nil, Nat.reduceAdd, Nat.zero_add, Nat.add_zero, Nat.reduceMul, Nat.reduceLT, Nat.reduceLeDiff, bne_self_eq_false, bne_iff_ne, beq_self_eq_true, List.replicate, List.flatten_cons, List.flatten_nil, dite_true, dite_false])
    | with_reducible refine VC.mid ?_
    | (refine And.intro (by first | omega | (unfold InI64; omega) | (intros; simp_all; done) | (intros; simp_all [InI64, InI32]; omega)) ?_)
    | (refine VC.condT (by rfl) (fun h => ?_) (fun h => ?_) <;> (try (cases h; done)) <;> (try simp only [decide_eq_true_eq, decide_eq_false_iff_not, Bool.and_eq_true, Bool.or_eq_true, Bool.and_eq_false_iff, Bool.or_eq_false_iff, Bool.not_eq_true', Bool.not_eq_false', not_true_eq_false, not_false_eq_true, or_false, or_true, false_or, true_or, and_true, true_and, and_false, false_and] at h) <;> (try (simp only [*, reduceCtorEq] at h; done)) <;> (try (exfalso; omega; done))))
    have hra := readAll_1 hbd
    refine ⟨nilS, nilS, ?_, .inl ⟨rfl, by rw [hra]⟩, .inl ⟨rfl, by rw [hra]⟩, fun i h => by cases h⟩
    rw [hra, hro]
    rfl
  have hAB1 : (atA s : Int) ≤ atB s := by omega
  have hK := atK_ge s
  refine VC.condT (by rfl) (fun h => by cases h) (fun _ => ?_)
  repeat' (first
    | with_reducible refine VC.seq ?_
    | with_reducible refine VC.skip ?_
    | with_reducible refine VC.block ?_
    | with_reducible refine VC.blk ?_
    | (refine VC.exit (by rfl) ?_)
    | (with_reducible refine VC.reg ?_; simp only [cond_or, cond_and, implies_true, imp_self, decide_eq_true_eq, decide_eq_false_iff_not, runOps, runP, actOf, argE, argsE, bound, getE, putD, putE, putR, pruneE, owe, ret1, fit, quot, remd, binR, unR, beqR, beq_self_eq_true, pickB, fillL, setL, SV.cells, vals, subList, cellsLoad, rowLoad, loadR, storeR, faddrR, iaddrR, subR, srcL, apart0, appendR, rowLen, etOf, decs, fieldR, loOf, dstOk, allOne, S0.one, Value.oneCell', ET.enc, ET.sz, ET.dec, ET.dft, word_app, wordT_app, wordS_app, tbl_nil, tbl_cons, Int.toNat_natCast, Int.toNat_zero, Nat.reduceBEq, Nat.reduceBNe, Nat.blt, Nat.ble, cond_true, cond_false, true_and, and_true, forall_const, true_implies, decide_true, decide_false, Bool.and_true, Bool.and_false, Bool.true_and, Bool.false_and, Bool.or_false, Bool.or_true, Bool.true_or, Bool.false_or, reduceCtorEq, List.length_cons, List.length_nil, List.append_nil, List.nil_append, List.cons_append, List.getElem?_cons_zero, List.getElem?_cons_succ, List.getElem?_nil, tupSV, List.map_cons, List.map_nil, List.filterMap_cons, List.filterMap_nil, List.set_cons_zero, List.set_cons_succ, List.drop_zero, List.drop_succ_cons, List.take_succ_cons, List.take_zero, List.take_nil, List.drop_nil, Nat.reduceAdd, Nat.zero_add, Nat.add_zero, Nat.reduceMul, Nat.reduceLT, Nat.reduceLeDiff, bne_self_eq_false, bne_iff_ne, beq_self_eq_true, List.replicate, List.flatten_cons, List.flatten_nil, dite_true, dite_false])
    | (with_reducible refine VC.regD ?_; simp only [runDraw, staticB, S0.ltB, cond_or, cond_and, implies_true, imp_self, decide_eq_true_eq, decide_eq_false_iff_not, runOps, runP, actOf, argE, argsE, bound, getE, putD, putE, putR, pruneE, owe, ret1, fit, quot, remd, binR, unR, beqR, beq_self_eq_true, pickB, fillL, setL, SV.cells, vals, subList, cellsLoad, rowLoad, loadR, storeR, faddrR, iaddrR, subR, srcL, apart0, appendR, rowLen, etOf, decs, fieldR, loOf, dstOk, allOne, S0.one, Value.oneCell', ET.enc, ET.sz, ET.dec, ET.dft, word_app, wordT_app, wordS_app, tbl_nil, tbl_cons, Int.toNat_natCast, Int.toNat_zero, Nat.reduceBEq, Nat.reduceBNe, Nat.blt, Nat.ble, cond_true, cond_false, true_and, and_true, forall_const, true_implies, decide_true, decide_false, Bool.and_true, Bool.and_false, Bool.true_and, Bool.false_and, Bool.or_false, Bool.or_true, Bool.true_or, Bool.false_or, reduceCtorEq, List.length_cons, List.length_nil, List.append_nil, List.nil_append, List.cons_append, List.getElem?_cons_zero, List.getElem?_cons_succ, List.getElem?_nil, tupSV, List.map_cons, List.map_nil, List.filterMap_cons, List.filterMap_nil, List.set_cons_zero, List.set_cons_succ, List.drop_zero, List.drop_succ_cons, List.take_succ_cons, List.take_zero, List.take_nil, List.drop_nil, Nat.reduceAdd, Nat.zero_add, Nat.add_zero, Nat.reduceMul, Nat.reduceLT, Nat.reduceLeDiff, bne_self_eq_false, bne_iff_ne, beq_self_eq_true, List.replicate, List.flatten_cons, List.flatten_nil, dite_true, dite_false])
    | (with_reducible refine VC.ret ?_; simp only [FinOK, resE, rvE, mkRes, cond_or, cond_and, implies_true, imp_self, decide_eq_true_eq, decide_eq_false_iff_not, runOps, runP, actOf, argE, argsE, bound, getE, putD, putE, putR, pruneE, owe, ret1, fit, quot, remd, binR, unR, beqR, beq_self_eq_true, pickB, fillL, setL, SV.cells, vals, subList, cellsLoad, rowLoad, loadR, storeR, faddrR, iaddrR, subR, srcL, apart0, appendR, rowLen, etOf, decs, fieldR, loOf, dstOk, allOne, S0.one, Value.oneCell', ET.enc, ET.sz, ET.dec, ET.dft, word_app, wordT_app, wordS_app, tbl_nil, tbl_cons, Int.toNat_natCast, Int.toNat_zero, Nat.reduceBEq, Nat.reduceBNe, Nat.blt, Nat.ble, cond_true, cond_false, true_and, and_true, forall_const, true_implies, decide_true, decide_false, Bool.and_true, Bool.and_false, Bool.true_and, Bool.false_and, Bool.or_false, Bool.or_true, Bool.true_or, Bool.false_or, reduceCtorEq, List.length_cons, List.length_nil, List.append_nil, List.nil_append, List.cons_append, List.getElem?_cons_zero, List.getElem?_cons_succ, List.getElem?_nil, tupSV, List.map_cons, List.map_nil, List.filterMap_cons, List.filterMap_nil, List.set_cons_zero, List.set_cons_succ, List.drop_zero, List.drop_succ_cons, List.take_succ_cons, List.take_zero, List.take_nil, List.drop_nil, Nat.reduceAdd, Nat.zero_add, Nat.add_zero, Nat.reduceMul, Nat.reduceLT, Nat.reduceLeDiff, bne_self_eq_false, bne_iff_ne, beq_self_eq_true, List.replicate, List.flatten_cons, List.flatten_nil, dite_true, dite_false])
    | with_reducible refine VC.mid ?_
    | (refine And.intro (by first | omega | (unfold InI64; omega) | (intros; simp_all; done) | (intros; simp_all [InI64, InI32]; omega)) ?_))
  -- the fraction
  have hdot : (decide ((atB s : Int) < s.size) && decide (bAt s (atB s) = 46)) = dotS s := by
    unfold dotS
    by_cases h : (atB s : Int) < s.size
    · simp [h]
    · simp [h, bAt_out h]
  simp only [hdot]
  refine VC.cutW (fun _ : Unit => ⟨[(0, True, valSV (.string s)), (2, True, .c (.o (.hd 0 0))), (3, True, valSV (.bool false)), (4, True, .c (.o (.hd 1 0))), (5, True, valSV (.int .i64 (atC s))), (6, True, valSV (.int .i64 (atA s))), (7, True, valSV (.string (allS s)))],
    [.cells 55 (numL false nilS 0 false nilS false ⟨#[]⟩), .cells 55 (numL (decide (bAt s 0 = 45)) nilS ((atB s : Int) - atA s) false nilS (!dotS s) (s.extract (atA s) (atB s)))]⟩) (fun _ => (dotS s && decide (atK s = atB s + 1)) = false) ?_ ?_
  · cases hd : dotS s
    · repeat' (first
    | with_reducible refine VC.seq ?_
    | with_reducible refine VC.skip ?_
    | with_reducible refine VC.block ?_
    | with_reducible refine VC.blk ?_
    | (refine VC.exit (by rfl) ?_)
    | (with_reducible refine VC.reg ?_; simp only [cond_or, cond_and, implies_true, imp_self, decide_eq_true_eq, decide_eq_false_iff_not, runOps, runP, actOf, argE, argsE, bound, getE, putD, putE, putR, pruneE, owe, ret1, fit, quot, remd, binR, unR, beqR, beq_self_eq_true, pickB, fillL, setL, SV.cells, vals, subList, cellsLoad, rowLoad, loadR, storeR, faddrR, iaddrR, subR, srcL, apart0, appendR, rowLen, etOf, decs, fieldR, loOf, dstOk, allOne, S0.one, Value.oneCell', ET.enc, ET.sz, ET.dec, ET.dft, word_app, wordT_app, wordS_app, tbl_nil, tbl_cons, Int.toNat_natCast, Int.toNat_zero, Nat.reduceBEq, Nat.reduceBNe, Nat.blt, Nat.ble, cond_true, cond_false, true_and, and_true, forall_const, true_implies, decide_true, decide_false, Bool.and_true, Bool.and_false, Bool.true_and, Bool.false_and, Bool.or_false, Bool.or_true, Bool.true_or, Bool.false_or, reduceCtorEq, List.length_cons, List.length_nil, List.append_nil, List.nil_append, List.cons_append, List.getElem?_cons_zero, List.getElem?_cons_succ, List.getElem?_nil, tupSV, List.map_cons, List.map_nil, List.filterMap_cons, List.filterMap_nil, List.set_cons_zero, List.set_cons_succ, List.drop_zero, List.drop_succ_cons, List.take_succ_cons, List.take_zero, List.take_nil, List.drop_nil, Nat.reduceAdd, Nat.zero_add, Nat.add_zero, Nat.reduceMul, Nat.reduceLT, Nat.reduceLeDiff, bne_self_eq_false, bne_iff_ne, beq_self_eq_true, List.replicate, List.flatten_cons, List.flatten_nil, dite_true, dite_false])
    | (with_reducible refine VC.regD ?_; simp only [runDraw, staticB, S0.ltB, cond_or, cond_and, implies_true, imp_self, decide_eq_true_eq, decide_eq_false_iff_not, runOps, runP, actOf, argE, argsE, bound, getE, putD, putE, putR, pruneE, owe, ret1, fit, quot, remd, binR, unR, beqR, beq_self_eq_true, pickB, fillL, setL, SV.cells, vals, subList, cellsLoad, rowLoad, loadR, storeR, faddrR, iaddrR, subR, srcL, apart0, appendR, rowLen, etOf, decs, fieldR, loOf, dstOk, allOne, S0.one, Value.oneCell', ET.enc, ET.sz, ET.dec, ET.dft, word_app, wordT_app, wordS_app, tbl_nil, tbl_cons, Int.toNat_natCast, Int.toNat_zero, Nat.reduceBEq, Nat.reduceBNe, Nat.blt, Nat.ble, cond_true, cond_false, true_and, and_true, forall_const, true_implies, decide_true, decide_false, Bool.and_true, Bool.and_false, Bool.true_and, Bool.false_and, Bool.or_false, Bool.or_true, Bool.true_or, Bool.false_or, reduceCtorEq, List.length_cons, List.length_nil, List.append_nil, List.nil_append, List.cons_append, List.getElem?_cons_zero, List.getElem?_cons_succ, List.getElem?_nil, tupSV, List.map_cons, List.map_nil, List.filterMap_cons, List.filterMap_nil, List.set_cons_zero, List.set_cons_succ, List.drop_zero, List.drop_succ_cons, List.take_succ_cons, List.take_zero, List.take_nil, List.drop_nil, Nat.reduceAdd, Nat.zero_add, Nat.add_zero, Nat.reduceMul, Nat.reduceLT, Nat.reduceLeDiff, bne_self_eq_false, bne_iff_ne, beq_self_eq_true, List.replicate, List.flatten_cons, List.flatten_nil, dite_true, dite_false])
    | (with_reducible refine VC.ret ?_; simp only [FinOK, resE, rvE, mkRes, cond_or, cond_and, implies_true, imp_self, decide_eq_true_eq, decide_eq_false_iff_not, runOps, runP, actOf, argE, argsE, bound, getE, putD, putE, putR, pruneE, owe, ret1, fit, quot, remd, binR, unR, beqR, beq_self_eq_true, pickB, fillL, setL, SV.cells, vals, subList, cellsLoad, rowLoad, loadR, storeR, faddrR, iaddrR, subR, srcL, apart0, appendR, rowLen, etOf, decs, fieldR, loOf, dstOk, allOne, S0.one, Value.oneCell', ET.enc, ET.sz, ET.dec, ET.dft, word_app, wordT_app, wordS_app, tbl_nil, tbl_cons, Int.toNat_natCast, Int.toNat_zero, Nat.reduceBEq, Nat.reduceBNe, Nat.blt, Nat.ble, cond_true, cond_false, true_and, and_true, forall_const, true_implies, decide_true, decide_false, Bool.and_true, Bool.and_false, Bool.true_and, Bool.false_and, Bool.or_false, Bool.or_true, Bool.true_or, Bool.false_or, reduceCtorEq, List.length_cons, List.length_nil, List.append_nil, List.nil_append, List.cons_append, List.getElem?_cons_zero, List.getElem?_cons_succ, List.getElem?_nil, tupSV, List.map_cons, List.map_nil, List.filterMap_cons, List.filterMap_nil, List.set_cons_zero, List.set_cons_succ, List.drop_zero, List.drop_succ_cons, List.take_succ_cons, List.take_zero, List.take_nil, List.drop_nil, Nat.reduceAdd, Nat.zero_add, Nat.add_zero, Nat.reduceMul, Nat.reduceLT, Nat.reduceLeDiff, bne_self_eq_false, bne_iff_ne, beq_self_eq_true, List.replicate, List.flatten_cons, List.flatten_nil, dite_true, dite_false])
    | with_reducible refine VC.mid ?_
    | (refine And.intro (by first | omega | (unfold InI64; omega) | (intros; simp_all; done) | (intros; simp_all [InI64, InI32]; omega)) ?_)
    | (refine VC.condT (by rfl) (fun h => ?_) (fun h => ?_) <;> (try (cases h; done)) <;> (try simp only [decide_eq_true_eq, decide_eq_false_iff_not, Bool.and_eq_true, Bool.or_eq_true, Bool.and_eq_false_iff, Bool.or_eq_false_iff, Bool.not_eq_true', Bool.not_eq_false', not_true_eq_false, not_false_eq_true, or_false, or_true, false_or, true_or, and_true, true_and, and_false, false_and] at h) <;> (try (simp only [*, reduceCtorEq] at h; done)) <;> (try (exfalso; omega; done))))
      refine ⟨(), [0, 1], [], by simp, ?_⟩
      simp only [numL, nilS, Weak, weakSl, weakHp, sameSB, eqSV, eqSC, eqL, eqS0, nils,  SV.ren, SC.ren, S0.ren, SV.ltB, SC.ltB, S0.ltB, nodupB, List.contains_nil, List.contains_cons, Bool.not_false, Bool.not_true, List.take_nil, List.range_zero, List.all_nil, List.all_cons, List.getD_cons_zero, List.getD_cons_succ, dite_true, valSV, cond_or, cond_and, implies_true, imp_self, decide_eq_true_eq, decide_eq_false_iff_not, runOps, runP, actOf, argE, argsE, bound, getE, putD, putE, putR, pruneE, owe, ret1, fit, quot, remd, binR, unR, beqR, beq_self_eq_true, pickB, fillL, setL, SV.cells, vals, subList, cellsLoad, rowLoad, loadR, storeR, faddrR, iaddrR, subR, srcL, apart0, appendR, rowLen, etOf, decs, fieldR, loOf, dstOk, allOne, S0.one, Value.oneCell', ET.enc, ET.sz, ET.dec, ET.dft, word_app, wordT_app, wordS_app, tbl_nil, tbl_cons, Int.toNat_natCast, Int.toNat_zero, Nat.reduceBEq, Nat.reduceBNe, Nat.blt, Nat.ble, cond_true, cond_false, true_and, and_true, forall_const, true_implies, decide_true, decide_false, Bool.and_true, Bool.and_false, Bool.true_and, Bool.false_and, Bool.or_false, Bool.or_true, Bool.true_or, Bool.false_or, reduceCtorEq, List.length_cons, List.length_nil, List.append_nil, List.nil_append, List.cons_append, List.getElem?_cons_zero, List.getElem?_cons_succ, List.getElem?_nil, tupSV, List.map_cons, List.map_nil, List.filterMap_cons, List.filterMap_nil, List.set_cons_zero, List.set_cons_succ, List.drop_zero, List.drop_succ_cons, List.take_succ_cons, List.take_zero, List.take_nil, List.drop_nil, Nat.reduceAdd, Nat.zero_add, Nat.add_zero, Nat.reduceMul, Nat.reduceLT, Nat.reduceLeDiff, bne_self_eq_false, bne_iff_ne, beq_self_eq_true, List.replicate, List.flatten_cons, List.flatten_nil, dite_true, dite_false]
      simp [atC, allS, hd]
    · have hBl := atB_lt hd
      have hKl := atK_le hd
      have hKe : manyS s (atB s + 1) = atK s := rfl
      have hcast : ((atB s : Int) + 1).toNat = atB s + 1 := by omega
      refine VC.condT (by rfl) (fun _ => ?_) (fun h => by cases h)
      repeat' (first
    | with_reducible refine VC.seq ?_
    | with_reducible refine VC.skip ?_
    | with_reducible refine VC.block ?_
    | with_reducible refine VC.blk ?_
    | (refine VC.exit (by rfl) ?_)
    | (with_reducible refine VC.reg ?_; simp only [cond_or, cond_and, implies_true, imp_self, decide_eq_true_eq, decide_eq_false_iff_not, runOps, runP, actOf, argE, argsE, bound, getE, putD, putE, putR, pruneE, owe, ret1, fit, quot, remd, binR, unR, beqR, beq_self_eq_true, pickB, fillL, setL, SV.cells, vals, subList, cellsLoad, rowLoad, loadR, storeR, faddrR, iaddrR, subR, srcL, apart0, appendR, rowLen, etOf, decs, fieldR, loOf, dstOk, allOne, S0.one, Value.oneCell', ET.enc, ET.sz, ET.dec, ET.dft, word_app, wordT_app, wordS_app, tbl_nil, tbl_cons, Int.toNat_natCast, Int.toNat_zero, Nat.reduceBEq, Nat.reduceBNe, Nat.blt, Nat.ble, cond_true, cond_false, true_and, and_true, forall_const, true_implies, decide_true, decide_false, Bool.and_true, Bool.and_false, Bool.true_and, Bool.false_and, Bool.or_false, Bool.or_true, Bool.true_or, Bool.false_or, reduceCtorEq, List.length_cons, List.length_nil, List.append_nil, List.nil_append, List.cons_append, List.getElem?_cons_zero, List.getElem?_cons_succ, List.getElem?_nil, tupSV, List.map_cons, List.map_nil, List.filterMap_cons, List.filterMap_nil, List.set_cons_zero, List.set_cons_succ, List.drop_zero, List.drop_succ_cons, List.take_succ_cons, List.take_zero, List.take_nil, List.drop_nil, Nat.reduceAdd, Nat.zero_add, Nat.add_zero, Nat.reduceMul, Nat.reduceLT, Nat.reduceLeDiff, bne_self_eq_false, bne_iff_ne, beq_self_eq_true, List.replicate, List.flatten_cons, List.flatten_nil, dite_true, dite_false])
    | (with_reducible refine VC.regD ?_; simp only [runDraw, staticB, S0.ltB, cond_or, cond_and, implies_true, imp_self, decide_eq_true_eq, decide_eq_false_iff_not, runOps, runP, actOf, argE, argsE, bound, getE, putD, putE, putR, pruneE, owe, ret1, fit, quot, remd, binR, unR, beqR, beq_self_eq_true, pickB, fillL, setL, SV.cells, vals, subList, cellsLoad, rowLoad, loadR, storeR, faddrR, iaddrR, subR, srcL, apart0, appendR, rowLen, etOf, decs, fieldR, loOf, dstOk, allOne, S0.one, Value.oneCell', ET.enc, ET.sz, ET.dec, ET.dft, word_app, wordT_app, wordS_app, tbl_nil, tbl_cons, Int.toNat_natCast, Int.toNat_zero, Nat.reduceBEq, Nat.reduceBNe, Nat.blt, Nat.ble, cond_true, cond_false, true_and, and_true, forall_const, true_implies, decide_true, decide_false, Bool.and_true, Bool.and_false, Bool.true_and, Bool.false_and, Bool.or_false, Bool.or_true, Bool.true_or, Bool.false_or, reduceCtorEq, List.length_cons, List.length_nil, List.append_nil, List.nil_append, List.cons_append, List.getElem?_cons_zero, List.getElem?_cons_succ, List.getElem?_nil, tupSV, List.map_cons, List.map_nil, List.filterMap_cons, List.filterMap_nil, List.set_cons_zero, List.set_cons_succ, List.drop_zero, List.drop_succ_cons, List.take_succ_cons, List.take_zero, List.take_nil, List.drop_nil, Nat.reduceAdd, Nat.zero_add, Nat.add_zero, Nat.reduceMul, Nat.reduceLT, Nat.reduceLeDiff, bne_self_eq_false, bne_iff_ne, beq_self_eq_true, List.replicate, List.flatten_cons, List.flatten_nil, dite_true, dite_false])
    | (with_reducible refine VC.ret ?_; simp only [FinOK, resE, rvE, mkRes, cond_or, cond_and, implies_true, imp_self, decide_eq_true_eq, decide_eq_false_iff_not, runOps, runP, actOf, argE, argsE, bound, getE, putD, putE, putR, pruneE, owe, ret1, fit, quot, remd, binR, unR, beqR, beq_self_eq_true, pickB, fillL, setL, SV.cells, vals, subList, cellsLoad, rowLoad, loadR, storeR, faddrR, iaddrR, subR, srcL, apart0, appendR, rowLen, etOf, decs, fieldR, loOf, dstOk, allOne, S0.one, Value.oneCell', ET.enc, ET.sz, ET.dec, ET.dft, word_app, wordT_app, wordS_app, tbl_nil, tbl_cons, Int.toNat_natCast, Int.toNat_zero, Nat.reduceBEq, Nat.reduceBNe, Nat.blt, Nat.ble, cond_true, cond_false, true_and, and_true, forall_const, true_implies, decide_true, decide_false, Bool.and_true, Bool.and_false, Bool.true_and, Bool.false_and, Bool.or_false, Bool.or_true, Bool.true_or, Bool.false_or, reduceCtorEq, List.length_cons, List.length_nil, List.append_nil, List.nil_append, List.cons_append, List.getElem?_cons_zero, List.getElem?_cons_succ, List.getElem?_nil, tupSV, List.map_cons, List.map_nil, List.filterMap_cons, List.filterMap_nil, List.set_cons_zero, List.set_cons_succ, List.drop_zero, List.drop_succ_cons, List.take_succ_cons, List.take_zero, List.take_nil, List.drop_nil, Nat.reduceAdd, Nat.zero_add, Nat.add_zero, Nat.reduceMul, Nat.reduceLT, Nat.reduceLeDiff, bne_self_eq_false, bne_iff_ne, beq_self_eq_true, List.replicate, List.flatten_cons, List.flatten_nil, dite_true, dite_false])
    | with_reducible refine VC.mid ?_
    | (refine And.intro (by first | omega | (unfold InI64; omega) | (intros; simp_all; done) | (intros; simp_all [InI64, InI32]; omega)) ?_))
      simp only [hcast, hKe]
      have hq : decide ((atK s : Int) = (atB s : Int) + 1) = decide (atK s = atB s + 1) := by rw [decide_eq_decide]; omega
      rw [hq]
      cases hk : decide (atK s = atB s + 1)
      · have hk' := of_decide_eq_false hk
        refine VC.condT (by rfl) (fun h => by cases h) (fun _ => ?_)
        repeat' (first
    | with_reducible refine VC.seq ?_
    | with_reducible refine VC.skip ?_
    | with_reducible refine VC.block ?_
    | with_reducible refine VC.blk ?_
    | (refine VC.exit (by rfl) ?_)
    | (with_reducible refine VC.reg ?_; simp only [cond_or, cond_and, implies_true, imp_self, decide_eq_true_eq, decide_eq_false_iff_not, runOps, runP, actOf, argE, argsE, bound, getE, putD, putE, putR, pruneE, owe, ret1, fit, quot, remd, binR, unR, beqR, beq_self_eq_true, pickB, fillL, setL, SV.cells, vals, subList, cellsLoad, rowLoad, loadR, storeR, faddrR, iaddrR, subR, srcL, apart0, appendR, rowLen, etOf, decs, fieldR, loOf, dstOk, allOne, S0.one, Value.oneCell', ET.enc, ET.sz, ET.dec, ET.dft, word_app, wordT_app, wordS_app, tbl_nil, tbl_cons, Int.toNat_natCast, Int.toNat_zero, Nat.reduceBEq, Nat.reduceBNe, Nat.blt, Nat.ble, cond_true, cond_false, true_and, and_true, forall_const, true_implies, decide_true, decide_false, Bool.and_true, Bool.and_false, Bool.true_and, Bool.false_and, Bool.or_false, Bool.or_true, Bool.true_or, Bool.false_or, reduceCtorEq, List.length_cons, List.length_nil, List.append_nil, List.nil_append, List.cons_append, List.getElem?_cons_zero, List.getElem?_cons_succ, List.getElem?_nil, tupSV, List.map_cons, List.map_nil, List.filterMap_cons, List.filterMap_nil, List.set_cons_zero, List.set_cons_succ, List.drop_zero, List.drop_succ_cons, List.take_succ_cons, List.take_zero, List.take_nil, List.drop_nil, Nat.reduceAdd, Nat.zero_add, Nat.add_zero, Nat.reduceMul, Nat.reduceLT, Nat.reduceLeDiff, bne_self_eq_false, bne_iff_ne, beq_self_eq_true, List.replicate, List.flatten_cons, List.flatten_nil, dite_true, dite_false])
    | (with_reducible refine VC.regD ?_; simp only [runDraw, staticB, S0.ltB, cond_or, cond_and, implies_true, imp_self, decide_eq_true_eq, decide_eq_false_iff_not, runOps, runP, actOf, argE, argsE, bound, getE, putD, putE, putR, pruneE, owe, ret1, fit, quot, remd, binR, unR, beqR, beq_self_eq_true, pickB, fillL, setL, SV.cells, vals, subList, cellsLoad, rowLoad, loadR, storeR, faddrR, iaddrR, subR, srcL, apart0, appendR, rowLen, etOf, decs, fieldR, loOf, dstOk, allOne, S0.one, Value.oneCell', ET.enc, ET.sz, ET.dec, ET.dft, word_app, wordT_app, wordS_app, tbl_nil, tbl_cons, Int.toNat_natCast, Int.toNat_zero, Nat.reduceBEq, Nat.reduceBNe, Nat.blt, Nat.ble, cond_true, cond_false, true_and, and_true, forall_const, true_implies, decide_true, decide_false, Bool.and_true, Bool.and_false, Bool.true_and, Bool.false_and, Bool.or_false, Bool.or_true, Bool.true_or, Bool.false_or, reduceCtorEq, List.length_cons, List.length_nil, List.append_nil, List.nil_append, List.cons_append, List.getElem?_cons_zero, List.getElem?_cons_succ, List.getElem?_nil, tupSV, List.map_cons, List.map_nil, List.filterMap_cons, List.filterMap_nil, List.set_cons_zero, List.set_cons_succ, List.drop_zero, List.drop_succ_cons, List.take_succ_cons, List.take_zero, List.take_nil, List.drop_nil, Nat.reduceAdd, Nat.zero_add, Nat.add_zero, Nat.reduceMul, Nat.reduceLT, Nat.reduceLeDiff, bne_self_eq_false, bne_iff_ne, beq_self_eq_true, List.replicate, List.flatten_cons, List.flatten_nil, dite_true, dite_false])
    | (with_reducible refine VC.ret ?_; simp only [FinOK, resE, rvE, mkRes, cond_or, cond_and, implies_true, imp_self, decide_eq_true_eq, decide_eq_false_iff_not, runOps, runP, actOf, argE, argsE, bound, getE, putD, putE, putR, pruneE, owe, ret1, fit, quot, remd, binR, unR, beqR, beq_self_eq_true, pickB, fillL, setL, SV.cells, vals, subList, cellsLoad, rowLoad, loadR, storeR, faddrR, iaddrR, subR, srcL, apart0, appendR, rowLen, etOf, decs, fieldR, loOf, dstOk, allOne, S0.one, Value.oneCell', ET.enc, ET.sz, ET.dec, ET.dft, word_app, wordT_app, wordS_app, tbl_nil, tbl_cons, Int.toNat_natCast, Int.toNat_zero, Nat.reduceBEq, Nat.reduceBNe, Nat.blt, Nat.ble, cond_true, cond_false, true_and, and_true, forall_const, true_implies, decide_true, decide_false, Bool.and_true, Bool.and_false, Bool.true_and, Bool.false_and, Bool.or_false, Bool.or_true, Bool.true_or, Bool.false_or, reduceCtorEq, List.length_cons, List.length_nil, List.append_nil, List.nil_append, List.cons_append, List.getElem?_cons_zero, List.getElem?_cons_succ, List.getElem?_nil, tupSV, List.map_cons, List.map_nil, List.filterMap_cons, List.filterMap_nil, List.set_cons_zero, List.set_cons_succ, List.drop_zero, List.drop_succ_cons, List.take_succ_cons, List.take_zero, List.take_nil, List.drop_nil, Nat.reduceAdd, Nat.zero_add, Nat.add_zero, Nat.reduceMul, Nat.reduceLT, Nat.reduceLeDiff, bne_self_eq_false, bne_iff_ne, beq_self_eq_true, List.replicate, List.flatten_cons, List.flatten_nil, dite_true, dite_false])
    | with_reducible refine VC.mid ?_
    | (refine And.intro (by first | omega | (unfold InI64; omega) | (intros; simp_all; done) | (intros; simp_all [InI64, InI32]; omega)) ?_)
    | (refine VC.condT (by rfl) (fun h => ?_) (fun h => ?_) <;> (try (cases h; done)) <;> (try simp only [decide_eq_true_eq, decide_eq_false_iff_not, Bool.and_eq_true, Bool.or_eq_true, Bool.and_eq_false_iff, Bool.or_eq_false_iff, Bool.not_eq_true', Bool.not_eq_false', not_true_eq_false, not_false_eq_true, or_false, or_true, false_or, true_or, and_true, true_and, and_false, false_and] at h) <;> (try (simp only [*, reduceCtorEq] at h; done)) <;> (try (exfalso; omega; done))))
        refine ⟨(), [0, 1], [], hk', ?_⟩
        simp only [numL, nilS, Weak, weakSl, weakHp, sameSB, eqSV, eqSC, eqL, eqS0, nils,  SV.ren, SC.ren, S0.ren, SV.ltB, SC.ltB, S0.ltB, nodupB, List.contains_nil, List.contains_cons, Bool.not_false, Bool.not_true, List.take_nil, List.range_zero, List.all_nil, List.all_cons, List.getD_cons_zero, List.getD_cons_succ, dite_true, valSV, cond_or, cond_and, implies_true, imp_self, decide_eq_true_eq, decide_eq_false_iff_not, runOps, runP, actOf, argE, argsE, bound, getE, putD, putE, putR, pruneE, owe, ret1, fit, quot, remd, binR, unR, beqR, beq_self_eq_true, pickB, fillL, setL, SV.cells, vals, subList, cellsLoad, rowLoad, loadR, storeR, faddrR, iaddrR, subR, srcL, apart0, appendR, rowLen, etOf, decs, fieldR, loOf, dstOk, allOne, S0.one, Value.oneCell', ET.enc, ET.sz, ET.dec, ET.dft, word_app, wordT_app, wordS_app, tbl_nil, tbl_cons, Int.toNat_natCast, Int.toNat_zero, Nat.reduceBEq, Nat.reduceBNe, Nat.blt, Nat.ble, cond_true, cond_false, true_and, and_true, forall_const, true_implies, decide_true, decide_false, Bool.and_true, Bool.and_false, Bool.true_and, Bool.false_and, Bool.or_false, Bool.or_true, Bool.true_or, Bool.false_or, reduceCtorEq, List.length_cons, List.length_nil, List.append_nil, List.nil_append, List.cons_append, List.getElem?_cons_zero, List.getElem?_cons_succ, List.getElem?_nil, tupSV, List.map_cons, List.map_nil, List.filterMap_cons, List.filterMap_nil, List.set_cons_zero, List.set_cons_succ, List.drop_zero, List.drop_succ_cons, List.take_succ_cons, List.take_zero, List.take_nil, List.drop_nil, Nat.reduceAdd, Nat.zero_add, Nat.add_zero, Nat.reduceMul, Nat.reduceLT, Nat.reduceLeDiff, bne_self_eq_false, bne_iff_ne, beq_self_eq_true, List.replicate, List.flatten_cons, List.flatten_nil, dite_true, dite_false]
        simp [atC, allS, hd, hcast]
      · have hro : readOk s = false := by simp [readOk, hd, hk]
        repeat' (first
    | with_reducible refine VC.seq ?_
    | with_reducible refine VC.skip ?_
    | with_reducible refine VC.block ?_
    | with_reducible refine VC.blk ?_
    | (refine VC.exit (by rfl) ?_)
    | (with_reducible refine VC.reg ?_; simp only [cond_or, cond_and, implies_true, imp_self, decide_eq_true_eq, decide_eq_false_iff_not, runOps, runP, actOf, argE, argsE, bound, getE, putD, putE, putR, pruneE, owe, ret1, fit, quot, remd, binR, unR, beqR, beq_self_eq_true, pickB, fillL, setL, SV.cells, vals, subList, cellsLoad, rowLoad, loadR, storeR, faddrR, iaddrR, subR, srcL, apart0, appendR, rowLen, etOf, decs, fieldR, loOf, dstOk, allOne, S0.one, Value.oneCell', ET.enc, ET.sz, ET.dec, ET.dft, word_app, wordT_app, wordS_app, tbl_nil, tbl_cons, Int.toNat_natCast, Int.toNat_zero, Nat.reduceBEq, Nat.reduceBNe, Nat.blt, Nat.ble, cond_true, cond_false, true_and, and_true, forall_const, true_implies, decide_true, decide_false, Bool.and_true, Bool.and_false, Bool.true_and, Bool.false_and, Bool.or_false, Bool.or_true, Bool.true_or, Bool.false_or, reduceCtorEq, List.length_cons, List.length_nil, List.append_nil, List.nil_append, List.cons_append, List.getElem?_cons_zero, List.getElem?_cons_succ, List.getElem?_nil, tupSV, List.map_cons, List.map_nil, List.filterMap_cons, List.filterMap_nil, List.set_cons_zero, List.set_cons_succ, List.drop_zero, List.drop_succ_cons, List.take_succ_cons, List.take_zero, List.take_nil, List.drop_nil, Nat.reduceAdd, Nat.zero_add, Nat.add_zero, Nat.reduceMul, Nat.reduceLT, Nat.reduceLeDiff, bne_self_eq_false, bne_iff_ne, beq_self_eq_true, List.replicate, List.flatten_cons, List.flatten_nil, dite_true, dite_false])
    | (with_reducible refine VC.regD ?_; simp only [runDraw, staticB, S0.ltB, cond_or, cond_and, implies_true, imp_self, decide_eq_true_eq, decide_eq_false_iff_not, runOps, runP, actOf, argE, argsE, bound, getE, putD, putE, putR, pruneE, owe, ret1, fit, quot, remd, binR, unR, beqR, beq_self_eq_true, pickB, fillL, setL, SV.cells, vals, subList, cellsLoad, rowLoad, loadR, storeR, faddrR, iaddrR, subR, srcL, apart0, appendR, rowLen, etOf, decs, fieldR, loOf, dstOk, allOne, S0.one, Value.oneCell', ET.enc, ET.sz, ET.dec, ET.dft, word_app, wordT_app, wordS_app, tbl_nil, tbl_cons, Int.toNat_natCast, Int.toNat_zero, Nat.reduceBEq, Nat.reduceBNe, Nat.blt, Nat.ble, cond_true, cond_false, true_and, and_true, forall_const, true_implies, decide_true, decide_false, Bool.and_true, Bool.and_false, Bool.true_and, Bool.false_and, Bool.or_false, Bool.or_true, Bool.true_or, Bool.false_or, reduceCtorEq, List.length_cons, List.length_nil, List.append_nil, List.nil_append, List.cons_append, List.getElem?_cons_zero, List.getElem?_cons_succ, List.getElem?_nil, tupSV, List.map_cons, List.map_nil, List.filterMap_cons, List.filterMap_nil, List.set_cons_zero, List.set_cons_succ, List.drop_zero, List.drop_succ_cons, List.take_succ_cons, List.take_zero, List.take_nil, List.drop_nil, Nat.reduceAdd, Nat.zero_add, Nat.add_zero, Nat.reduceMul, Nat.reduceLT, Nat.reduceLeDiff, bne_self_eq_false, bne_iff_ne, beq_self_eq_true, List.replicate, List.flatten_cons, List.flatten_nil, dite_true, dite_false])
    | (with_reducible refine VC.ret ?_; simp only [FinOK, resE, rvE, mkRes, cond_or, cond_and, implies_true, imp_self, decide_eq_true_eq, decide_eq_false_iff_not, runOps, runP, actOf, argE, argsE, bound, getE, putD, putE, putR, pruneE, owe, ret1, fit, quot, remd, binR, unR, beqR, beq_self_eq_true, pickB, fillL, setL, SV.cells, vals, subList, cellsLoad, rowLoad, loadR, storeR, faddrR, iaddrR, subR, srcL, apart0, appendR, rowLen, etOf, decs, fieldR, loOf, dstOk, allOne, S0.one, Value.oneCell', ET.enc, ET.sz, ET.dec, ET.dft, word_app, wordT_app, wordS_app, tbl_nil, tbl_cons, Int.toNat_natCast, Int.toNat_zero, Nat.reduceBEq, Nat.reduceBNe, Nat.blt, Nat.ble, cond_true, cond_false, true_and, and_true, forall_const, true_implies, decide_true, decide_false, Bool.and_true, Bool.and_false, Bool.true_and, Bool.false_and, Bool.or_false, Bool.or_true, Bool.true_or, Bool.false_or, reduceCtorEq, List.length_cons, List.length_nil, List.append_nil, List.nil_append, List.cons_append, List.getElem?_cons_zero, List.getElem?_cons_succ, List.getElem?_nil, tupSV, List.map_cons, List.map_nil, List.filterMap_cons, List.filterMap_nil, List.set_cons_zero, List.set_cons_succ, List.drop_zero, List.drop_succ_cons, List.take_succ_cons, List.take_zero, List.take_nil, List.drop_nil, Nat.reduceAdd, Nat.zero_add, Nat.add_zero, Nat.reduceMul, Nat.reduceLT, Nat.reduceLeDiff, bne_self_eq_false, bne_iff_ne, beq_self_eq_true, List.replicate, List.flatten_cons, List.flatten_nil, dite_true, dite_false])
    | with_reducible refine VC.mid ?_
    | (refine And.intro (by first | omega | (unfold InI64; omega) | (intros; simp_all; done) | (intros; simp_all [InI64, InI32]; omega)) ?_)
    | (refine VC.condT (by rfl) (fun h => ?_) (fun h => ?_) <;> (try (cases h; done)) <;> (try simp only [decide_eq_true_eq, decide_eq_false_iff_not, Bool.and_eq_true, Bool.or_eq_true, Bool.and_eq_false_iff, Bool.or_eq_false_iff, Bool.not_eq_true', Bool.not_eq_false', not_true_eq_false, not_false_eq_true, or_false, or_true, false_or, true_or, and_true, true_and, and_false, false_and] at h) <;> (try (simp only [*, reduceCtorEq] at h; done)) <;> (try (exfalso; omega; done))))
        have hra := readAll_2 hbd (by simp [hd, of_decide_eq_true hk])
        refine ⟨nilS, nilS, ?_, .inl ⟨rfl, by rw [hra]⟩, .inl ⟨rfl, by rw [hra]⟩, fun i h => by cases h⟩
        rw [hra, hro]
        rfl
  intro _ hdk
  simp only [valSV, numL, nilS]
  have hC := atC_le s
  repeat' (first
    | with_reducible refine VC.seq ?_
    | with_reducible refine VC.skip ?_
    | with_reducible refine VC.block ?_
    | with_reducible refine VC.blk ?_
    | (refine VC.exit (by rfl) ?_)
    | (with_reducible refine VC.reg ?_; simp only [cond_or, cond_and, implies_true, imp_self, decide_eq_true_eq, decide_eq_false_iff_not, runOps, runP, actOf, argE, argsE, bound, getE, putD, putE, putR, pruneE, owe, ret1, fit, quot, remd, binR, unR, beqR, beq_self_eq_true, pickB, fillL, setL, SV.cells, vals, subList, cellsLoad, rowLoad, loadR, storeR, faddrR, iaddrR, subR, srcL, apart0, appendR, rowLen, etOf, decs, fieldR, loOf, dstOk, allOne, S0.one, Value.oneCell', ET.enc, ET.sz, ET.dec, ET.dft, word_app, wordT_app, wordS_app, tbl_nil, tbl_cons, Int.toNat_natCast, Int.toNat_zero, Nat.reduceBEq, Nat.reduceBNe, Nat.blt, Nat.ble, cond_true, cond_false, true_and, and_true, forall_const, true_implies, decide_true, decide_false, Bool.and_true, Bool.and_false, Bool.true_and, Bool.false_and, Bool.or_false, Bool.or_true, Bool.true_or, Bool.false_or, reduceCtorEq, List.length_cons, List.length_nil, List.append_nil, List.nil_append, List.cons_append, List.getElem?_cons_zero, List.getElem?_cons_succ, List.getElem?_nil, tupSV, List.map_cons, List.map_nil, List.filterMap_cons, List.filterMap_nil, List.set_cons_zero, List.set_cons_succ, List.drop_zero, List.drop_succ_cons, List.take_succ_cons, List.take_zero, List.take_nil, List.drop_nil, Nat.reduceAdd, Nat.zero_add, Nat.add_zero, Nat.reduceMul, Nat.reduceLT, Nat.reduceLeDiff, bne_self_eq_false, bne_iff_ne, beq_self_eq_true, List.replicate, List.flatten_cons, List.flatten_nil, dite_true, dite_false])
    | (with_reducible refine VC.regD ?_; simp only [runDraw, staticB, S0.ltB, cond_or, cond_and, implies_true, imp_self, decide_eq_true_eq, decide_eq_false_iff_not, runOps, runP, actOf, argE, argsE, bound, getE, putD, putE, putR, pruneE, owe, ret1, fit, quot, remd, binR, unR, beqR, beq_self_eq_true, pickB, fillL, setL, SV.cells, vals, subList, cellsLoad, rowLoad, loadR, storeR, faddrR, iaddrR, subR, srcL, apart0, appendR, rowLen, etOf, decs, fieldR, loOf, dstOk, allOne, S0.one, Value.oneCell', ET.enc, ET.sz, ET.dec, ET.dft, word_app, wordT_app, wordS_app, tbl_nil, tbl_cons, Int.toNat_natCast, Int.toNat_zero, Nat.reduceBEq, Nat.reduceBNe, Nat.blt, Nat.ble, cond_true, cond_false, true_and, and_true, forall_const, true_implies, decide_true, decide_false, Bool.and_true, Bool.and_false, Bool.true_and, Bool.false_and, Bool.or_false, Bool.or_true, Bool.true_or, Bool.false_or, reduceCtorEq, List.length_cons, List.length_nil, List.append_nil, List.nil_append, List.cons_append, List.getElem?_cons_zero, List.getElem?_cons_succ, List.getElem?_nil, tupSV, List.map_cons, List.map_nil, List.filterMap_cons, List.filterMap_nil, List.set_cons_zero, List.set_cons_succ, List.drop_zero, List.drop_succ_cons, List.take_succ_cons, List.take_zero, List.take_nil, List.drop_nil, Nat.reduceAdd, Nat.zero_add, Nat.add_zero, Nat.reduceMul, Nat.reduceLT, Nat.reduceLeDiff, bne_self_eq_false, bne_iff_ne, beq_self_eq_true, List.replicate, List.flatten_cons, List.flatten_nil, dite_true, dite_false])
    | (with_reducible refine VC.ret ?_; simp only [FinOK, resE, rvE, mkRes, cond_or, cond_and, implies_true, imp_self, decide_eq_true_eq, decide_eq_false_iff_not, runOps, runP, actOf, argE, argsE, bound, getE, putD, putE, putR, pruneE, owe, ret1, fit, quot, remd, binR, unR, beqR, beq_self_eq_true, pickB, fillL, setL, SV.cells, vals, subList, cellsLoad, rowLoad, loadR, storeR, faddrR, iaddrR, subR, srcL, apart0, appendR, rowLen, etOf, decs, fieldR, loOf, dstOk, allOne, S0.one, Value.oneCell', ET.enc, ET.sz, ET.dec, ET.dft, word_app, wordT_app, wordS_app, tbl_nil, tbl_cons, Int.toNat_natCast, Int.toNat_zero, Nat.reduceBEq, Nat.reduceBNe, Nat.blt, Nat.ble, cond_true, cond_false, true_and, and_true, forall_const, true_implies, decide_true, decide_false, Bool.and_true, Bool.and_false, Bool.true_and, Bool.false_and, Bool.or_false, Bool.or_true, Bool.true_or, Bool.false_or, reduceCtorEq, List.length_cons, List.length_nil, List.append_nil, List.nil_append, List.cons_append, List.getElem?_cons_zero, List.getElem?_cons_succ, List.getElem?_nil, tupSV, List.map_cons, List.map_nil, List.filterMap_cons, List.filterMap_nil, List.set_cons_zero, List.set_cons_succ, List.drop_zero, List.drop_succ_cons, List.take_succ_cons, List.take_zero, List.take_nil, List.drop_nil, Nat.reduceAdd, Nat.zero_add, Nat.add_zero, Nat.reduceMul, Nat.reduceLT, Nat.reduceLeDiff, bne_self_eq_false, bne_iff_ne, beq_self_eq_true, List.replicate, List.flatten_cons, List.flatten_nil, dite_true, dite_false])
    | with_reducible refine VC.mid ?_
    | (refine And.intro (by first | omega | (unfold InI64; omega) | (intros; simp_all; done) | (intros; simp_all [InI64, InI32]; omega)) ?_))
  -- the exponent
  have hexp : (decide ((atC s : Int) < s.size) && (decide (bAt s (atC s) = 101) || decide (bAt s (atC s) = 69))) = expS s := by
    unfold expS
    by_cases h : (atC s : Int) < s.size
    · simp [h]
    · simp [h, bAt_out h]
  simp only [hexp]
  refine VC.cutW (fun _ : Unit => ⟨[(0, True, valSV (.string s)), (2, True, .c (.o (.hd 0 0))), (3, True, valSV (.bool false)), (4, True, .c (.o (.hd 1 0))), (5, True, valSV (.int .i64 (atG s))), (6, True, valSV (.int .i64 (atA s))), (7, True, valSV (.string (allS s)))],
    [.cells 55 (numL false nilS 0 false nilS false ⟨#[]⟩), .cells 55 (numL (decide (bAt s 0 = 45)) nilS ((atB s : Int) - atA s) (readS s).down (.own 2) (!dotS s && !expS s) (s.extract (atA s) (atB s))), .row .i64 3 (readS s).exp]⟩) (fun _ => (expS s && decide (atF s = atE s)) = false) ?_ ?_
  · cases he : expS s
    · repeat' (first
    | with_reducible refine VC.seq ?_
    | with_reducible refine VC.skip ?_
    | with_reducible refine VC.block ?_
    | with_reducible refine VC.blk ?_
    | (refine VC.exit (by rfl) ?_)
    | (with_reducible refine VC.reg ?_; simp only [cond_or, cond_and, implies_true, imp_self, decide_eq_true_eq, decide_eq_false_iff_not, runOps, runP, actOf, argE, argsE, bound, getE, putD, putE, putR, pruneE, owe, ret1, fit, quot, remd, binR, unR, beqR, beq_self_eq_true, pickB, fillL, setL, SV.cells, vals, subList, cellsLoad, rowLoad, loadR, storeR, faddrR, iaddrR, subR, srcL, apart0, appendR, rowLen, etOf, decs, fieldR, loOf, dstOk, allOne, S0.one, Value.oneCell', ET.enc, ET.sz, ET.dec, ET.dft, word_app, wordT_app, wordS_app, tbl_nil, tbl_cons, Int.toNat_natCast, Int.toNat_zero, Nat.reduceBEq, Nat.reduceBNe, Nat.blt, Nat.ble, cond_true, cond_false, true_and, and_true, forall_const, true_implies, decide_true, decide_false, Bool.and_true, Bool.and_false, Bool.true_and, Bool.false_and, Bool.or_false, Bool.or_true, Bool.true_or, Bool.false_or, reduceCtorEq, List.length_cons, List.length_nil, List.append_nil, List.nil_append, List.cons_append, List.getElem?_cons_zero, List.getElem?_cons_succ, List.getElem?_nil, tupSV, List.map_cons, List.map_nil, List.filterMap_cons, List.filterMap_nil, List.set_cons_zero, List.set_cons_succ, List.drop_zero, List.drop_succ_cons, List.take_succ_cons, List.take_zero, List.take_nil, List.drop_nil, Nat.reduceAdd, Nat.zero_add, Nat.add_zero, Nat.reduceMul, Nat.reduceLT, Nat.reduceLeDiff, bne_self_eq_false, bne_iff_ne, beq_self_eq_true, List.replicate, List.flatten_cons, List.flatten_nil, dite_true, dite_false])
    | (with_reducible refine VC.regD ?_; simp only [runDraw, staticB, S0.ltB, cond_or, cond_and, implies_true, imp_self, decide_eq_true_eq, decide_eq_false_iff_not, runOps, runP, actOf, argE, argsE, bound, getE, putD, putE, putR, pruneE, owe, ret1, fit, quot, remd, binR, unR, beqR, beq_self_eq_true, pickB, fillL, setL, SV.cells, vals, subList, cellsLoad, rowLoad, loadR, storeR, faddrR, iaddrR, subR, srcL, apart0, appendR, rowLen, etOf, decs, fieldR, loOf, dstOk, allOne, S0.one, Value.oneCell', ET.enc, ET.sz, ET.dec, ET.dft, word_app, wordT_app, wordS_app, tbl_nil, tbl_cons, Int.toNat_natCast, Int.toNat_zero, Nat.reduceBEq, Nat.reduceBNe, Nat.blt, Nat.ble, cond_true, cond_false, true_and, and_true, forall_const, true_implies, decide_true, decide_false, Bool.and_true, Bool.and_false, Bool.true_and, Bool.false_and, Bool.or_false, Bool.or_true, Bool.true_or, Bool.false_or, reduceCtorEq, List.length_cons, List.length_nil, List.append_nil, List.nil_append, List.cons_append, List.getElem?_cons_zero, List.getElem?_cons_succ, List.getElem?_nil, tupSV, List.map_cons, List.map_nil, List.filterMap_cons, List.filterMap_nil, List.set_cons_zero, List.set_cons_succ, List.drop_zero, List.drop_succ_cons, List.take_succ_cons, List.take_zero, List.take_nil, List.drop_nil, Nat.reduceAdd, Nat.zero_add, Nat.add_zero, Nat.reduceMul, Nat.reduceLT, Nat.reduceLeDiff, bne_self_eq_false, bne_iff_ne, beq_self_eq_true, List.replicate, List.flatten_cons, List.flatten_nil, dite_true, dite_false])
    | (with_reducible refine VC.ret ?_; simp only [FinOK, resE, rvE, mkRes, cond_or, cond_and, implies_true, imp_self, decide_eq_true_eq, decide_eq_false_iff_not, runOps, runP, actOf, argE, argsE, bound, getE, putD, putE, putR, pruneE, owe, ret1, fit, quot, remd, binR, unR, beqR, beq_self_eq_true, pickB, fillL, setL, SV.cells, vals, subList, cellsLoad, rowLoad, loadR, storeR, faddrR, iaddrR, subR, srcL, apart0, appendR, rowLen, etOf, decs, fieldR, loOf, dstOk, allOne, S0.one, Value.oneCell', ET.enc, ET.sz, ET.dec, ET.dft, word_app, wordT_app, wordS_app, tbl_nil, tbl_cons, Int.toNat_natCast, Int.toNat_zero, Nat.reduceBEq, Nat.reduceBNe, Nat.blt, Nat.ble, cond_true, cond_false, true_and, and_true, forall_const, true_implies, decide_true, decide_false, Bool.and_true, Bool.and_false, Bool.true_and, Bool.false_and, Bool.or_false, Bool.or_true, Bool.true_or, Bool.false_or, reduceCtorEq, List.length_cons, List.length_nil, List.append_nil, List.nil_append, List.cons_append, List.getElem?_cons_zero, List.getElem?_cons_succ, List.getElem?_nil, tupSV, List.map_cons, List.map_nil, List.filterMap_cons, List.filterMap_nil, List.set_cons_zero, List.set_cons_succ, List.drop_zero, List.drop_succ_cons, List.take_succ_cons, List.take_zero, List.take_nil, List.drop_nil, Nat.reduceAdd, Nat.zero_add, Nat.add_zero, Nat.reduceMul, Nat.reduceLT, Nat.reduceLeDiff, bne_self_eq_false, bne_iff_ne, beq_self_eq_true, List.replicate, List.flatten_cons, List.flatten_nil, dite_true, dite_false])
    | with_reducible refine VC.mid ?_
    | (refine And.intro (by first | omega | (unfold InI64; omega) | (intros; simp_all; done) | (intros; simp_all [InI64, InI32]; omega)) ?_)
    | (refine VC.condT (by rfl) (fun h => ?_) (fun h => ?_) <;> (try (cases h; done)) <;> (try simp only [decide_eq_true_eq, decide_eq_false_iff_not, Bool.and_eq_true, Bool.or_eq_true, Bool.and_eq_false_iff, Bool.or_eq_false_iff, Bool.not_eq_true', Bool.not_eq_false', not_true_eq_false, not_false_eq_true, or_false, or_true, false_or, true_or, and_true, true_and, and_false, false_and] at h) <;> (try (simp only [*, reduceCtorEq] at h; done)) <;> (try (exfalso; omega; done))))
      refine ⟨(), [0, 1, 2], [(.i64, 3)], by simp, ?_⟩
      simp only [numL, nilS, Weak, weakSl, weakHp, sameSB, eqSV, eqSC, eqL, eqS0, nils,  SV.ren, SC.ren, S0.ren, SV.ltB, SC.ltB, S0.ltB, nodupB, List.contains_nil, List.contains_cons, Bool.not_false, Bool.not_true, List.take_nil, List.range_zero, List.all_nil, List.all_cons, List.getD_cons_zero, List.getD_cons_succ, dite_true, valSV, cond_or, cond_and, implies_true, imp_self, decide_eq_true_eq, decide_eq_false_iff_not, runOps, runP, actOf, argE, argsE, bound, getE, putD, putE, putR, pruneE, owe, ret1, fit, quot, remd, binR, unR, beqR, beq_self_eq_true, pickB, fillL, setL, SV.cells, vals, subList, cellsLoad, rowLoad, loadR, storeR, faddrR, iaddrR, subR, srcL, apart0, appendR, rowLen, etOf, decs, fieldR, loOf, dstOk, allOne, S0.one, Value.oneCell', ET.enc, ET.sz, ET.dec, ET.dft, word_app, wordT_app, wordS_app, tbl_nil, tbl_cons, Int.toNat_natCast, Int.toNat_zero, Nat.reduceBEq, Nat.reduceBNe, Nat.blt, Nat.ble, cond_true, cond_false, true_and, and_true, forall_const, true_implies, decide_true, decide_false, Bool.and_true, Bool.and_false, Bool.true_and, Bool.false_and, Bool.or_false, Bool.or_true, Bool.true_or, Bool.false_or, reduceCtorEq, List.length_cons, List.length_nil, List.append_nil, List.nil_append, List.cons_append, List.getElem?_cons_zero, List.getElem?_cons_succ, List.getElem?_nil, tupSV, List.map_cons, List.map_nil, List.filterMap_cons, List.filterMap_nil, List.set_cons_zero, List.set_cons_succ, List.drop_zero, List.drop_succ_cons, List.take_succ_cons, List.take_zero, List.take_nil, List.drop_nil, Nat.reduceAdd, Nat.zero_add, Nat.add_zero, Nat.reduceMul, Nat.reduceLT, Nat.reduceLeDiff, bne_self_eq_false, bne_iff_ne, beq_self_eq_true, List.replicate, List.flatten_cons, List.flatten_nil, dite_true, dite_false]
      simp [atG, readS, he]
    · have hCl := atC_lt he
      have hEl := atE_le he
      have hFl := atF_le he
      have hFg := atF_ge s
      refine VC.condT (by rfl) (fun _ => ?_) (fun h => by cases h)
      repeat' (first
    | with_reducible refine VC.seq ?_
    | with_reducible refine VC.skip ?_
    | with_reducible refine VC.block ?_
    | with_reducible refine VC.blk ?_
    | (refine VC.exit (by rfl) ?_)
    | (with_reducible refine VC.reg ?_; simp only [cond_or, cond_and, implies_true, imp_self, decide_eq_true_eq, decide_eq_false_iff_not, runOps, runP, actOf, argE, argsE, bound, getE, putD, putE, putR, pruneE, owe, ret1, fit, quot, remd, binR, unR, beqR, beq_self_eq_true, pickB, fillL, setL, SV.cells, vals, subList, cellsLoad, rowLoad, loadR, storeR, faddrR, iaddrR, subR, srcL, apart0, appendR, rowLen, etOf, decs, fieldR, loOf, dstOk, allOne, S0.one, Value.oneCell', ET.enc, ET.sz, ET.dec, ET.dft, word_app, wordT_app, wordS_app, tbl_nil, tbl_cons, Int.toNat_natCast, Int.toNat_zero, Nat.reduceBEq, Nat.reduceBNe, Nat.blt, Nat.ble, cond_true, cond_false, true_and, and_true, forall_const, true_implies, decide_true, decide_false, Bool.and_true, Bool.and_false, Bool.true_and, Bool.false_and, Bool.or_false, Bool.or_true, Bool.true_or, Bool.false_or, reduceCtorEq, List.length_cons, List.length_nil, List.append_nil, List.nil_append, List.cons_append, List.getElem?_cons_zero, List.getElem?_cons_succ, List.getElem?_nil, tupSV, List.map_cons, List.map_nil, List.filterMap_cons, List.filterMap_nil, List.set_cons_zero, List.set_cons_succ, List.drop_zero, List.drop_succ_cons, List.take_succ_cons, List.take_zero, List.take_nil, List.drop_nil, Nat.reduceAdd, Nat.zero_add, Nat.add_zero, Nat.reduceMul, Nat.reduceLT, Nat.reduceLeDiff, bne_self_eq_false, bne_iff_ne, beq_self_eq_true, List.replicate, List.flatten_cons, List.flatten_nil, dite_true, dite_false])
    | (with_reducible refine VC.regD ?_; simp only [runDraw, staticB, S0.ltB, cond_or, cond_and, implies_true, imp_self, decide_eq_true_eq, decide_eq_false_iff_not, runOps, runP, actOf, argE, argsE, bound, getE, putD, putE, putR, pruneE, owe, ret1, fit, quot, remd, binR, unR, beqR, beq_self_eq_true, pickB, fillL, setL, SV.cells, vals, subList, cellsLoad, rowLoad, loadR, storeR, faddrR, iaddrR, subR, srcL, apart0, appendR, rowLen, etOf, decs, fieldR, loOf, dstOk, allOne, S0.one, Value.oneCell', ET.enc, ET.sz, ET.dec, ET.dft, word_app, wordT_app, wordS_app, tbl_nil, tbl_cons, Int.toNat_natCast, Int.toNat_zero, Nat.reduceBEq, Nat.reduceBNe, Nat.blt, Nat.ble, cond_true, cond_false, true_and, and_true, forall_const, true_implies, decide_true, decide_false, Bool.and_true, Bool.and_false, Bool.true_and, Bool.false_and, Bool.or_false, Bool.or_true, Bool.true_or, Bool.false_or, reduceCtorEq, List.length_cons, List.length_nil, List.append_nil, List.nil_append, List.cons_append, List.getElem?_cons_zero, List.getElem?_cons_succ, List.getElem?_nil, tupSV, List.map_cons, List.map_nil, List.filterMap_cons, List.filterMap_nil, List.set_cons_zero, List.set_cons_succ, List.drop_zero, List.drop_succ_cons, List.take_succ_cons, List.take_zero, List.take_nil, List.drop_nil, Nat.reduceAdd, Nat.zero_add, Nat.add_zero, Nat.reduceMul, Nat.reduceLT, Nat.reduceLeDiff, bne_self_eq_false, bne_iff_ne, beq_self_eq_true, List.replicate, List.flatten_cons, List.flatten_nil, dite_true, dite_false])
    | (with_reducible refine VC.ret ?_; simp only [FinOK, resE, rvE, mkRes, cond_or, cond_and, implies_true, imp_self, decide_eq_true_eq, decide_eq_false_iff_not, runOps, runP, actOf, argE, argsE, bound, getE, putD, putE, putR, pruneE, owe, ret1, fit, quot, remd, binR, unR, beqR, beq_self_eq_true, pickB, fillL, setL, SV.cells, vals, subList, cellsLoad, rowLoad, loadR, storeR, faddrR, iaddrR, subR, srcL, apart0, appendR, rowLen, etOf, decs, fieldR, loOf, dstOk, allOne, S0.one, Value.oneCell', ET.enc, ET.sz, ET.dec, ET.dft, word_app, wordT_app, wordS_app, tbl_nil, tbl_cons, Int.toNat_natCast, Int.toNat_zero, Nat.reduceBEq, Nat.reduceBNe, Nat.blt, Nat.ble, cond_true, cond_false, true_and, and_true, forall_const, true_implies, decide_true, decide_false, Bool.and_true, Bool.and_false, Bool.true_and, Bool.false_and, Bool.or_false, Bool.or_true, Bool.true_or, Bool.false_or, reduceCtorEq, List.length_cons, List.length_nil, List.append_nil, List.nil_append, List.cons_append, List.getElem?_cons_zero, List.getElem?_cons_succ, List.getElem?_nil, tupSV, List.map_cons, List.map_nil, List.filterMap_cons, List.filterMap_nil, List.set_cons_zero, List.set_cons_succ, List.drop_zero, List.drop_succ_cons, List.take_succ_cons, List.take_zero, List.take_nil, List.drop_nil, Nat.reduceAdd, Nat.zero_add, Nat.add_zero, Nat.reduceMul, Nat.reduceLT, Nat.reduceLeDiff, bne_self_eq_false, bne_iff_ne, beq_self_eq_true, List.replicate, List.flatten_cons, List.flatten_nil, dite_true, dite_false])
    | with_reducible refine VC.mid ?_
    | (refine And.intro (by first | omega | (unfold InI64; omega) | (intros; simp_all; done) | (intros; simp_all [InI64, InI32]; omega)) ?_))
      have hsg : (decide ((atC s : Int) + 1 < s.size) && (decide (bAt s ((atC s : Int) + 1) = 43) || decide (bAt s ((atC s : Int) + 1) = 45))) = sgnS s := by
        unfold sgnS
        by_cases h : (atC s : Int) + 1 < s.size
        · simp [h]
        · simp [h, bAt_out h]
      simp only [hsg]
      refine VC.cutW (fun _ : Unit => ⟨[(0, True, valSV (.string s)), (2, True, .c (.o (.hd 0 0))), (3, True, valSV (.bool false)), (4, True, .c (.o (.hd 1 0))), (5, True, valSV (.int .i64 (atE s))), (6, True, valSV (.int .i64 (atA s))), (7, True, valSV (.string (allS s)))],
        [.cells 55 (numL false nilS 0 false nilS false ⟨#[]⟩), .cells 55 (numL (decide (bAt s 0 = 45)) nilS ((atB s : Int) - atA s) (readS s).down nilS false (s.extract (atA s) (atB s)))]⟩) (fun _ => True) ?_ ?_
      · cases hs : sgnS s
        · repeat' (first
    | with_reducible refine VC.seq ?_
    | with_reducible refine VC.skip ?_
    | with_reducible refine VC.block ?_
    | with_reducible refine VC.blk ?_
    | (refine VC.exit (by rfl) ?_)
    | (with_reducible refine VC.reg ?_; simp only [cond_or, cond_and, implies_true, imp_self, decide_eq_true_eq, decide_eq_false_iff_not, runOps, runP, actOf, argE, argsE, bound, getE, putD, putE, putR, pruneE, owe, ret1, fit, quot, remd, binR, unR, beqR, beq_self_eq_true, pickB, fillL, setL, SV.cells, vals, subList, cellsLoad, rowLoad, loadR, storeR, faddrR, iaddrR, subR, srcL, apart0, appendR, rowLen, etOf, decs, fieldR, loOf, dstOk, allOne, S0.one, Value.oneCell', ET.enc, ET.sz, ET.dec, ET.dft, word_app, wordT_app, wordS_app, tbl_nil, tbl_cons, Int.toNat_natCast, Int.toNat_zero, Nat.reduceBEq, Nat.reduceBNe, Nat.blt, Nat.ble, cond_true, cond_false, true_and, and_true, forall_const, true_implies, decide_true, decide_false, Bool.and_true, Bool.and_false, Bool.true_and, Bool.false_and, Bool.or_false, Bool.or_true, Bool.true_or, Bool.false_or, reduceCtorEq, List.length_cons, List.length_nil, List.append_nil, List.nil_append, List.cons_append, List.getElem?_cons_zero, List.getElem?_cons_succ, List.getElem?_nil, tupSV, List.map_cons, List.map_nil, List.filterMap_cons, List.filterMap_nil, List.set_cons_zero, List.set_cons_succ, List.drop_zero, List.drop_succ_cons, List.take_succ_cons, List.take_zero, List.take_nil, List.drop_nil, Nat.reduceAdd, Nat.zero_add, Nat.add_zero, Nat.reduceMul, Nat.reduceLT, Nat.reduceLeDiff, bne_self_eq_false, bne_iff_ne, beq_self_eq_true, List.replicate, List.flatten_cons, List.flatten_nil, dite_true, dite_false])
    | (with_reducible refine VC.regD ?_; simp only [runDraw, staticB, S0.ltB, cond_or, cond_and, implies_true, imp_self, decide_eq_true_eq, decide_eq_false_iff_not, runOps, runP, actOf, argE, argsE, bound, getE, putD, putE, putR, pruneE, owe, ret1, fit, quot, remd, binR, unR, beqR, beq_self_eq_true, pickB, fillL, setL, SV.cells, vals, subList, cellsLoad, rowLoad, loadR, storeR, faddrR, iaddrR, subR, srcL, apart0, appendR, rowLen, etOf, decs, fieldR, loOf, dstOk, allOne, S0.one, Value.oneCell', ET.enc, ET.sz, ET.dec, ET.dft, word_app, wordT_app, wordS_app, tbl_nil, tbl_cons, Int.toNat_natCast, Int.toNat_zero, Nat.reduceBEq, Nat.reduceBNe, Nat.blt, Nat.ble, cond_true, cond_false, true_and, and_true, forall_const, true_implies, decide_true, decide_false, Bool.and_true, Bool.and_false, Bool.true_and, Bool.false_and, Bool.or_false, Bool.or_true, Bool.true_or, Bool.false_or, reduceCtorEq, List.length_cons, List.length_nil, List.append_nil, List.nil_append, List.cons_append, List.getElem?_cons_zero, List.getElem?_cons_succ, List.getElem?_nil, tupSV, List.map_cons, List.map_nil, List.filterMap_cons, List.filterMap_nil, List.set_cons_zero, List.set_cons_succ, List.drop_zero, List.drop_succ_cons, List.take_succ_cons, List.take_zero, List.take_nil, List.drop_nil, Nat.reduceAdd, Nat.zero_add, Nat.add_zero, Nat.reduceMul, Nat.reduceLT, Nat.reduceLeDiff, bne_self_eq_false, bne_iff_ne, beq_self_eq_true, List.replicate, List.flatten_cons, List.flatten_nil, dite_true, dite_false])
    | (with_reducible refine VC.ret ?_; simp only [FinOK, resE, rvE, mkRes, cond_or, cond_and, implies_true, imp_self, decide_eq_true_eq, decide_eq_false_iff_not, runOps, runP, actOf, argE, argsE, bound, getE, putD, putE, putR, pruneE, owe, ret1, fit, quot, remd, binR, unR, beqR, beq_self_eq_true, pickB, fillL, setL, SV.cells, vals, subList, cellsLoad, rowLoad, loadR, storeR, faddrR, iaddrR, subR, srcL, apart0, appendR, rowLen, etOf, decs, fieldR, loOf, dstOk, allOne, S0.one, Value.oneCell', ET.enc, ET.sz, ET.dec, ET.dft, word_app, wordT_app, wordS_app, tbl_nil, tbl_cons, Int.toNat_natCast, Int.toNat_zero, Nat.reduceBEq, Nat.reduceBNe, Nat.blt, Nat.ble, cond_true, cond_false, true_and, and_true, forall_const, true_implies, decide_true, decide_false, Bool.and_true, Bool.and_false, Bool.true_and, Bool.false_and, Bool.or_false, Bool.or_true, Bool.true_or, Bool.false_or, reduceCtorEq, List.length_cons, List.length_nil, List.append_nil, List.nil_append, List.cons_append, List.getElem?_cons_zero, List.getElem?_cons_succ, List.getElem?_nil, tupSV, List.map_cons, List.map_nil, List.filterMap_cons, List.filterMap_nil, List.set_cons_zero, List.set_cons_succ, List.drop_zero, List.drop_succ_cons, List.take_succ_cons, List.take_zero, List.take_nil, List.drop_nil, Nat.reduceAdd, Nat.zero_add, Nat.add_zero, Nat.reduceMul, Nat.reduceLT, Nat.reduceLeDiff, bne_self_eq_false, bne_iff_ne, beq_self_eq_true, List.replicate, List.flatten_cons, List.flatten_nil, dite_true, dite_false])
    | with_reducible refine VC.mid ?_
    | (refine And.intro (by first | omega | (unfold InI64; omega) | (intros; simp_all; done) | (intros; simp_all [InI64, InI32]; omega)) ?_)
    | (refine VC.condT (by rfl) (fun h => ?_) (fun h => ?_) <;> (try (cases h; done)) <;> (try simp only [decide_eq_true_eq, decide_eq_false_iff_not, Bool.and_eq_true, Bool.or_eq_true, Bool.and_eq_false_iff, Bool.or_eq_false_iff, Bool.not_eq_true', Bool.not_eq_false', not_true_eq_false, not_false_eq_true, or_false, or_true, false_or, true_or, and_true, true_and, and_false, false_and] at h) <;> (try (simp only [*, reduceCtorEq] at h; done)) <;> (try (exfalso; omega; done))))
          refine ⟨(), [0, 1], [], ?_⟩
          simp only [numL, nilS, Weak, weakSl, weakHp, sameSB, eqSV, eqSC, eqL, eqS0, nils,  SV.ren, SC.ren, S0.ren, SV.ltB, SC.ltB, S0.ltB, nodupB, List.contains_nil, List.contains_cons, Bool.not_false, Bool.not_true, List.take_nil, List.range_zero, List.all_nil, List.all_cons, List.getD_cons_zero, List.getD_cons_succ, dite_true, valSV, cond_or, cond_and, implies_true, imp_self, decide_eq_true_eq, decide_eq_false_iff_not, runOps, runP, actOf, argE, argsE, bound, getE, putD, putE, putR, pruneE, owe, ret1, fit, quot, remd, binR, unR, beqR, beq_self_eq_true, pickB, fillL, setL, SV.cells, vals, subList, cellsLoad, rowLoad, loadR, storeR, faddrR, iaddrR, subR, srcL, apart0, appendR, rowLen, etOf, decs, fieldR, loOf, dstOk, allOne, S0.one, Value.oneCell', ET.enc, ET.sz, ET.dec, ET.dft, word_app, wordT_app, wordS_app, tbl_nil, tbl_cons, Int.toNat_natCast, Int.toNat_zero, Nat.reduceBEq, Nat.reduceBNe, Nat.blt, Nat.ble, cond_true, cond_false, true_and, and_true, forall_const, true_implies, decide_true, decide_false, Bool.and_true, Bool.and_false, Bool.true_and, Bool.false_and, Bool.or_false, Bool.or_true, Bool.true_or, Bool.false_or, reduceCtorEq, List.length_cons, List.length_nil, List.append_nil, List.nil_append, List.cons_append, List.getElem?_cons_zero, List.getElem?_cons_succ, List.getElem?_nil, tupSV, List.map_cons, List.map_nil, List.filterMap_cons, List.filterMap_nil, List.set_cons_zero, List.set_cons_succ, List.drop_zero, List.drop_succ_cons, List.take_succ_cons, List.take_zero, List.take_nil, List.drop_nil, Nat.reduceAdd, Nat.zero_add, Nat.add_zero, Nat.reduceMul, Nat.reduceLT, Nat.reduceLeDiff, bne_self_eq_false, bne_iff_ne, beq_self_eq_true, List.replicate, List.flatten_cons, List.flatten_nil, dite_true, dite_false]
          have : ¬ bAt s ((atC s : Int) + 1) = 45 := by
            intro h
            simp [sgnS, h] at hs
          simp [atE, hs, readS, he, this]
        · have hsl := sgn_lt hs
          refine VC.condT (by rfl) (fun _ => ?_) (fun h => by cases h)
          repeat' (first
    | with_reducible refine VC.seq ?_
    | with_reducible refine VC.skip ?_
    | with_reducible refine VC.block ?_
    | with_reducible refine VC.blk ?_
    | (refine VC.exit (by rfl) ?_)
    | (with_reducible refine VC.reg ?_; simp only [cond_or, cond_and, implies_true, imp_self, decide_eq_true_eq, decide_eq_false_iff_not, runOps, runP, actOf, argE, argsE, bound, getE, putD, putE, putR, pruneE, owe, ret1, fit, quot, remd, binR, unR, beqR, beq_self_eq_true, pickB, fillL, setL, SV.cells, vals, subList, cellsLoad, rowLoad, loadR, storeR, faddrR, iaddrR, subR, srcL, apart0, appendR, rowLen, etOf, decs, fieldR, loOf, dstOk, allOne, S0.one, Value.oneCell', ET.enc, ET.sz, ET.dec, ET.dft, word_app, wordT_app, wordS_app, tbl_nil, tbl_cons, Int.toNat_natCast, Int.toNat_zero, Nat.reduceBEq, Nat.reduceBNe, Nat.blt, Nat.ble, cond_true, cond_false, true_and, and_true, forall_const, true_implies, decide_true, decide_false, Bool.and_true, Bool.and_false, Bool.true_and, Bool.false_and, Bool.or_false, Bool.or_true, Bool.true_or, Bool.false_or, reduceCtorEq, List.length_cons, List.length_nil, List.append_nil, List.nil_append, List.cons_append, List.getElem?_cons_zero, List.getElem?_cons_succ, List.getElem?_nil, tupSV, List.map_cons, List.map_nil, List.filterMap_cons, List.filterMap_nil, List.set_cons_zero, List.set_cons_succ, List.drop_zero, List.drop_succ_cons, List.take_succ_cons, List.take_zero, List.take_nil, List.drop_nil, Nat.reduceAdd, Nat.zero_add, Nat.add_zero, Nat.reduceMul, Nat.reduceLT, Nat.reduceLeDiff, bne_self_eq_false, bne_iff_ne, beq_self_eq_true, List.replicate, List.flatten_cons, List.flatten_nil, dite_true, dite_false])
    | (with_reducible refine VC.regD ?_; simp only [runDraw, staticB, S0.ltB, cond_or, cond_and, implies_true, imp_self, decide_eq_true_eq, decide_eq_false_iff_not, runOps, runP, actOf, argE, argsE, bound, getE, putD, putE, putR, pruneE, owe, ret1, fit, quot, remd, binR, unR, beqR, beq_self_eq_true, pickB, fillL, setL, SV.cells, vals, subList, cellsLoad, rowLoad, loadR, storeR, faddrR, iaddrR, subR, srcL, apart0, appendR, rowLen, etOf, decs, fieldR, loOf, dstOk, allOne, S0.one, Value.oneCell', ET.enc, ET.sz, ET.dec, ET.dft, word_app, wordT_app, wordS_app, tbl_nil, tbl_cons, Int.toNat_natCast, Int.toNat_zero, Nat.reduceBEq, Nat.reduceBNe, Nat.blt, Nat.ble, cond_true, cond_false, true_and, and_true, forall_const, true_implies, decide_true, decide_false, Bool.and_true, Bool.and_false, Bool.true_and, Bool.false_and, Bool.or_false, Bool.or_true, Bool.true_or, Bool.false_or, reduceCtorEq, List.length_cons, List.length_nil, List.append_nil, List.nil_append, List.cons_append, List.getElem?_cons_zero, List.getElem?_cons_succ, List.getElem?_nil, tupSV, List.map_cons, List.map_nil, List.filterMap_cons, List.filterMap_nil, List.set_cons_zero, List.set_cons_succ, List.drop_zero, List.drop_succ_cons, List.take_succ_cons, List.take_zero, List.take_nil, List.drop_nil, Nat.reduceAdd, Nat.zero_add, Nat.add_zero, Nat.reduceMul, Nat.reduceLT, Nat.reduceLeDiff, bne_self_eq_false, bne_iff_ne, beq_self_eq_true, List.replicate, List.flatten_cons, List.flatten_nil, dite_true, dite_false])
    | (with_reducible refine VC.ret ?_; simp only [FinOK, resE, rvE, mkRes, cond_or, cond_and, implies_true, imp_self, decide_eq_true_eq, decide_eq_false_iff_not, runOps, runP, actOf, argE, argsE, bound, getE, putD, putE, putR, pruneE, owe, ret1, fit, quot, remd, binR, unR, beqR, beq_self_eq_true, pickB, fillL, setL, SV.cells, vals, subList, cellsLoad, rowLoad, loadR, storeR, faddrR, iaddrR, subR, srcL, apart0, appendR, rowLen, etOf, decs, fieldR, loOf, dstOk, allOne, S0.one, Value.oneCell', ET.enc, ET.sz, ET.dec, ET.dft, word_app, wordT_app, wordS_app, tbl_nil, tbl_cons, Int.toNat_natCast, Int.toNat_zero, Nat.reduceBEq, Nat.reduceBNe, Nat.blt, Nat.ble, cond_true, cond_false, true_and, and_true, forall_const, true_implies, decide_true, decide_false, Bool.and_true, Bool.and_false, Bool.true_and, Bool.false_and, Bool.or_false, Bool.or_true, Bool.true_or, Bool.false_or, reduceCtorEq, List.length_cons, List.length_nil, List.append_nil, List.nil_append, List.cons_append, List.getElem?_cons_zero, List.getElem?_cons_succ, List.getElem?_nil, tupSV, List.map_cons, List.map_nil, List.filterMap_cons, List.filterMap_nil, List.set_cons_zero, List.set_cons_succ, List.drop_zero, List.drop_succ_cons, List.take_succ_cons, List.take_zero, List.take_nil, List.drop_nil, Nat.reduceAdd, Nat.zero_add, Nat.add_zero, Nat.reduceMul, Nat.reduceLT, Nat.reduceLeDiff, bne_self_eq_false, bne_iff_ne, beq_self_eq_true, List.replicate, List.flatten_cons, List.flatten_nil, dite_true, dite_false])
    | with_reducible refine VC.mid ?_
    | (refine And.intro (by first | omega | (unfold InI64; omega) | (intros; simp_all; done) | (intros; simp_all [InI64, InI32]; omega)) ?_)
    | (refine VC.condT (by rfl) (fun h => ?_) (fun h => ?_) <;> (try (cases h; done)) <;> (try simp only [decide_eq_true_eq, decide_eq_false_iff_not, Bool.and_eq_true, Bool.or_eq_true, Bool.and_eq_false_iff, Bool.or_eq_false_iff, Bool.not_eq_true', Bool.not_eq_false', not_true_eq_false, not_false_eq_true, or_false, or_true, false_or, true_or, and_true, true_and, and_false, false_and] at h) <;> (try (simp only [*, reduceCtorEq] at h; done)) <;> (try (exfalso; omega; done))))
          refine ⟨(), [0, 1], [], ?_⟩
          simp only [numL, nilS, Weak, weakSl, weakHp, sameSB, eqSV, eqSC, eqL, eqS0, nils,  SV.ren, SC.ren, S0.ren, SV.ltB, SC.ltB, S0.ltB, nodupB, List.contains_nil, List.contains_cons, Bool.not_false, Bool.not_true, List.take_nil, List.range_zero, List.all_nil, List.all_cons, List.getD_cons_zero, List.getD_cons_succ, dite_true, valSV, cond_or, cond_and, implies_true, imp_self, decide_eq_true_eq, decide_eq_false_iff_not, runOps, runP, actOf, argE, argsE, bound, getE, putD, putE, putR, pruneE, owe, ret1, fit, quot, remd, binR, unR, beqR, beq_self_eq_true, pickB, fillL, setL, SV.cells, vals, subList, cellsLoad, rowLoad, loadR, storeR, faddrR, iaddrR, subR, srcL, apart0, appendR, rowLen, etOf, decs, fieldR, loOf, dstOk, allOne, S0.one, Value.oneCell', ET.enc, ET.sz, ET.dec, ET.dft, word_app, wordT_app, wordS_app, tbl_nil, tbl_cons, Int.toNat_natCast, Int.toNat_zero, Nat.reduceBEq, Nat.reduceBNe, Nat.blt, Nat.ble, cond_true, cond_false, true_and, and_true, forall_const, true_implies, decide_true, decide_false, Bool.and_true, Bool.and_false, Bool.true_and, Bool.false_and, Bool.or_false, Bool.or_true, Bool.true_or, Bool.false_or, reduceCtorEq, List.length_cons, List.length_nil, List.append_nil, List.nil_append, List.cons_append, List.getElem?_cons_zero, List.getElem?_cons_succ, List.getElem?_nil, tupSV, List.map_cons, List.map_nil, List.filterMap_cons, List.filterMap_nil, List.set_cons_zero, List.set_cons_succ, List.drop_zero, List.drop_succ_cons, List.take_succ_cons, List.take_zero, List.take_nil, List.drop_nil, Nat.reduceAdd, Nat.zero_add, Nat.add_zero, Nat.reduceMul, Nat.reduceLT, Nat.reduceLeDiff, bne_self_eq_false, bne_iff_ne, beq_self_eq_true, List.replicate, List.flatten_cons, List.flatten_nil, dite_true, dite_false]
          simp [atE, hs, readS, he]
          omega
      intro _ _
      simp only [valSV, numL, nilS]
      have hFe : manyS s (atE s) = atF s := rfl
      repeat' (first
    | with_reducible refine VC.seq ?_
    | with_reducible refine VC.skip ?_
    | with_reducible refine VC.block ?_
    | with_reducible refine VC.blk ?_
    | (refine VC.exit (by rfl) ?_)
    | (with_reducible refine VC.reg ?_; simp only [cond_or, cond_and, implies_true, imp_self, decide_eq_true_eq, decide_eq_false_iff_not, runOps, runP, actOf, argE, argsE, bound, getE, putD, putE, putR, pruneE, owe, ret1, fit, quot, remd, binR, unR, beqR, beq_self_eq_true, pickB, fillL, setL, SV.cells, vals, subList, cellsLoad, rowLoad, loadR, storeR, faddrR, iaddrR, subR, srcL, apart0, appendR, rowLen, etOf, decs, fieldR, loOf, dstOk, allOne, S0.one, Value.oneCell', ET.enc, ET.sz, ET.dec, ET.dft, word_app, wordT_app, wordS_app, tbl_nil, tbl_cons, Int.toNat_natCast, Int.toNat_zero, Nat.reduceBEq, Nat.reduceBNe, Nat.blt, Nat.ble, cond_true, cond_false, true_and, and_true, forall_const, true_implies, decide_true, decide_false, Bool.and_true, Bool.and_false, Bool.true_and, Bool.false_and, Bool.or_false, Bool.or_true, Bool.true_or, Bool.false_or, reduceCtorEq, List.length_cons, List.length_nil, List.append_nil, List.nil_append, List.cons_append, List.getElem?_cons_zero, List.getElem?_cons_succ, List.getElem?_nil, tupSV, List.map_cons, List.map_nil, List.filterMap_cons, List.filterMap_nil, List.set_cons_zero, List.set_cons_succ, List.drop_zero, List.drop_succ_cons, List.take_succ_cons, List.take_zero, List.take_nil, List.drop_nil, Nat.reduceAdd, Nat.zero_add, Nat.add_zero, Nat.reduceMul, Nat.reduceLT, Nat.reduceLeDiff, bne_self_eq_false, bne_iff_ne, beq_self_eq_true, List.replicate, List.flatten_cons, List.flatten_nil, dite_true, dite_false])
    | (with_reducible refine VC.regD ?_; simp only [runDraw, staticB, S0.ltB, cond_or, cond_and, implies_true, imp_self, decide_eq_true_eq, decide_eq_false_iff_not, runOps, runP, actOf, argE, argsE, bound, getE, putD, putE, putR, pruneE, owe, ret1, fit, quot, remd, binR, unR, beqR, beq_self_eq_true, pickB, fillL, setL, SV.cells, vals, subList, cellsLoad, rowLoad, loadR, storeR, faddrR, iaddrR, subR, srcL, apart0, appendR, rowLen, etOf, decs, fieldR, loOf, dstOk, allOne, S0.one, Value.oneCell', ET.enc, ET.sz, ET.dec, ET.dft, word_app, wordT_app, wordS_app, tbl_nil, tbl_cons, Int.toNat_natCast, Int.toNat_zero, Nat.reduceBEq, Nat.reduceBNe, Nat.blt, Nat.ble, cond_true, cond_false, true_and, and_true, forall_const, true_implies, decide_true, decide_false, Bool.and_true, Bool.and_false, Bool.true_and, Bool.false_and, Bool.or_false, Bool.or_true, Bool.true_or, Bool.false_or, reduceCtorEq, List.length_cons, List.length_nil, List.append_nil, List.nil_append, List.cons_append, List.getElem?_cons_zero, List.getElem?_cons_succ, List.getElem?_nil, tupSV, List.map_cons, List.map_nil, List.filterMap_cons, List.filterMap_nil, List.set_cons_zero, List.set_cons_succ, List.drop_zero, List.drop_succ_cons, List.take_succ_cons, List.take_zero, List.take_nil, List.drop_nil, Nat.reduceAdd, Nat.zero_add, Nat.add_zero, Nat.reduceMul, Nat.reduceLT, Nat.reduceLeDiff, bne_self_eq_false, bne_iff_ne, beq_self_eq_true, List.replicate, List.flatten_cons, List.flatten_nil, dite_true, dite_false])
    | (with_reducible refine VC.ret ?_; simp only [FinOK, resE, rvE, mkRes, cond_or, cond_and, implies_true, imp_self, decide_eq_true_eq, decide_eq_false_iff_not, runOps, runP, actOf, argE, argsE, bound, getE, putD, putE, putR, pruneE, owe, ret1, fit, quot, remd, binR, unR, beqR, beq_self_eq_true, pickB, fillL, setL, SV.cells, vals, subList, cellsLoad, rowLoad, loadR, storeR, faddrR, iaddrR, subR, srcL, apart0, appendR, rowLen, etOf, decs, fieldR, loOf, dstOk, allOne, S0.one, Value.oneCell', ET.enc, ET.sz, ET.dec, ET.dft, word_app, wordT_app, wordS_app, tbl_nil, tbl_cons, Int.toNat_natCast, Int.toNat_zero, Nat.reduceBEq, Nat.reduceBNe, Nat.blt, Nat.ble, cond_true, cond_false, true_and, and_true, forall_const, true_implies, decide_true, decide_false, Bool.and_true, Bool.and_false, Bool.true_and, Bool.false_and, Bool.or_false, Bool.or_true, Bool.true_or, Bool.false_or, reduceCtorEq, List.length_cons, List.length_nil, List.append_nil, List.nil_append, List.cons_append, List.getElem?_cons_zero, List.getElem?_cons_succ, List.getElem?_nil, tupSV, List.map_cons, List.map_nil, List.filterMap_cons, List.filterMap_nil, List.set_cons_zero, List.set_cons_succ, List.drop_zero, List.drop_succ_cons, List.take_succ_cons, List.take_zero, List.take_nil, List.drop_nil, Nat.reduceAdd, Nat.zero_add, Nat.add_zero, Nat.reduceMul, Nat.reduceLT, Nat.reduceLeDiff, bne_self_eq_false, bne_iff_ne, beq_self_eq_true, List.replicate, List.flatten_cons, List.flatten_nil, dite_true, dite_false])
    | with_reducible refine VC.mid ?_
    | (refine And.intro (by first | omega | (unfold InI64; omega) | (intros; simp_all; done) | (intros; simp_all [InI64, InI32]; omega)) ?_))
      simp only [hFe]
      have hq : decide ((atF s : Int) = atE s) = decide (atF s = atE s) := by rw [decide_eq_decide]; omega
      rw [hq]
      cases hk : decide (atF s = atE s)
      · have hk' := of_decide_eq_false hk
        refine VC.condT (by rfl) (fun h => by cases h) (fun _ => ?_)
        repeat' (first
    | with_reducible refine VC.seq ?_
    | with_reducible refine VC.skip ?_
    | with_reducible refine VC.block ?_
    | with_reducible refine VC.blk ?_
    | (refine VC.exit (by rfl) ?_)
    | (with_reducible refine VC.reg ?_; simp only [cond_or, cond_and, implies_true, imp_self, decide_eq_true_eq, decide_eq_false_iff_not, runOps, runP, actOf, argE, argsE, bound, getE, putD, putE, putR, pruneE, owe, ret1, fit, quot, remd, binR, unR, beqR, beq_self_eq_true, pickB, fillL, setL, SV.cells, vals, subList, cellsLoad, rowLoad, loadR, storeR, faddrR, iaddrR, subR, srcL, apart0, appendR, rowLen, etOf, decs, fieldR, loOf, dstOk, allOne, S0.one, Value.oneCell', ET.enc, ET.sz, ET.dec, ET.dft, word_app, wordT_app, wordS_app, tbl_nil, tbl_cons, Int.toNat_natCast, Int.toNat_zero, Nat.reduceBEq, Nat.reduceBNe, Nat.blt, Nat.ble, cond_true, cond_false, true_and, and_true, forall_const, true_implies, decide_true, decide_false, Bool.and_true, Bool.and_false, Bool.true_and, Bool.false_and, Bool.or_false, Bool.or_true, Bool.true_or, Bool.false_or, reduceCtorEq, List.length_cons, List.length_nil, List.append_nil, List.nil_append, List.cons_append, List.getElem?_cons_zero, List.getElem?_cons_succ, List.getElem?_nil, tupSV, List.map_cons, List.map_nil, List.filterMap_cons, List.filterMap_nil, List.set_cons_zero, List.set_cons_succ, List.drop_zero, List.drop_succ_cons, List.take_succ_cons, List.take_zero, List.take_nil, List.drop_nil, Nat.reduceAdd, Nat.zero_add, Nat.add_zero, Nat.reduceMul, Nat.reduceLT, Nat.reduceLeDiff, bne_self_eq_false, bne_iff_ne, beq_self_eq_true, List.replicate, List.flatten_cons, List.flatten_nil, dite_true, dite_false])
    | (with_reducible refine VC.regD ?_; simp only [runDraw, staticB, S0.ltB, cond_or, cond_and, implies_true, imp_self, decide_eq_true_eq, decide_eq_false_iff_not, runOps, runP, actOf, argE, argsE, bound, getE, putD, putE, putR, pruneE, owe, ret1, fit, quot, remd, binR, unR, beqR, beq_self_eq_true, pickB, fillL, setL, SV.cells, vals, subList, cellsLoad, rowLoad, loadR, storeR, faddrR, iaddrR, subR, srcL, apart0, appendR, rowLen, etOf, decs, fieldR, loOf, dstOk, allOne, S0.one, Value.oneCell', ET.enc, ET.sz, ET.dec, ET.dft, word_app, wordT_app, wordS_app, tbl_nil, tbl_cons, Int.toNat_natCast, Int.toNat_zero, Nat.reduceBEq, Nat.reduceBNe, Nat.blt, Nat.ble, cond_true, cond_false, true_and, and_true, forall_const, true_implies, decide_true, decide_false, Bool.and_true, Bool.and_false, Bool.true_and, Bool.false_and, Bool.or_false, Bool.or_true, Bool.true_or, Bool.false_or, reduceCtorEq, List.length_cons, List.length_nil, List.append_nil, List.nil_append, List.cons_append, List.getElem?_cons_zero, List.getElem?_cons_succ, List.getElem?_nil, tupSV, List.map_cons, List.map_nil, List.filterMap_cons, List.filterMap_nil, List.set_cons_zero, List.set_cons_succ, List.drop_zero, List.drop_succ_cons, List.take_succ_cons, List.take_zero, List.take_nil, List.drop_nil, Nat.reduceAdd, Nat.zero_add, Nat.add_zero, Nat.reduceMul, Nat.reduceLT, Nat.reduceLeDiff, bne_self_eq_false, bne_iff_ne, beq_self_eq_true, List.replicate, List.flatten_cons, List.flatten_nil, dite_true, dite_false])
    | (with_reducible refine VC.ret ?_; simp only [FinOK, resE, rvE, mkRes, cond_or, cond_and, implies_true, imp_self, decide_eq_true_eq, decide_eq_false_iff_not, runOps, runP, actOf, argE, argsE, bound, getE, putD, putE, putR, pruneE, owe, ret1, fit, quot, remd, binR, unR, beqR, beq_self_eq_true, pickB, fillL, setL, SV.cells, vals, subList, cellsLoad, rowLoad, loadR, storeR, faddrR, iaddrR, subR, srcL, apart0, appendR, rowLen, etOf, decs, fieldR, loOf, dstOk, allOne, S0.one, Value.oneCell', ET.enc, ET.sz, ET.dec, ET.dft, word_app, wordT_app, wordS_app, tbl_nil, tbl_cons, Int.toNat_natCast, Int.toNat_zero, Nat.reduceBEq, Nat.reduceBNe, Nat.blt, Nat.ble, cond_true, cond_false, true_and, and_true, forall_const, true_implies, decide_true, decide_false, Bool.and_true, Bool.and_false, Bool.true_and, Bool.false_and, Bool.or_false, Bool.or_true, Bool.true_or, Bool.false_or, reduceCtorEq, List.length_cons, List.length_nil, List.append_nil, List.nil_append, List.cons_append, List.getElem?_cons_zero, List.getElem?_cons_succ, List.getElem?_nil, tupSV, List.map_cons, List.map_nil, List.filterMap_cons, List.filterMap_nil, List.set_cons_zero, List.set_cons_succ, List.drop_zero, List.drop_succ_cons, List.take_succ_cons, List.take_zero, List.take_nil, List.drop_nil, Nat.reduceAdd, Nat.zero_add, Nat.add_zero, Nat.reduceMul, Nat.reduceLT, Nat.reduceLeDiff, bne_self_eq_false, bne_iff_ne, beq_self_eq_true, List.replicate, List.flatten_cons, List.flatten_nil, dite_true, dite_false])
    | with_reducible refine VC.mid ?_
    | (refine And.intro (by first | omega | (unfold InI64; omega) | (intros; simp_all; done) | (intros; simp_all [InI64, InI32]; omega)) ?_))
        refine VC.loop (fun k : Nat => ⟨[(0, True, valSV (.string s)), (2, True, .c (.o (.hd 0 0))), (3, True, valSV (.bool false)), (4, True, .c (.o (.hd 1 0))), (5, True, valSV (.int .i64 (atE s))), (6, True, valSV (.int .i64 (atA s))), (7, True, valSV (.string (allS s))), (9, True, valSV (.int .i64 (atF s))), (10, True, valSV (.int .i64 ((atE s + k : Nat) : Int)))],
          [.cells 55 (numL false nilS 0 false nilS false ⟨#[]⟩), .cells 55 (numL (decide (bAt s 0 = 45)) nilS ((atB s : Int) - atA s) (readS s).down (.own 2) false (s.extract (atA s) (atB s))), .row .i64 3 (lead (dsFrom s (atE s) k))]⟩)
          (fun k => atE s + k ≤ atF s) (fun k => atF s - (atE s + k)) 0 [0, 1, 2] [(.i64, 3)] (by omega) ?_ ?_
        · simp only [numL, nilS, Weak, weakSl, weakHp, sameSB, eqSV, eqSC, eqL, eqS0, nils,  SV.ren, SC.ren, S0.ren, SV.ltB, SC.ltB, S0.ltB, nodupB, List.contains_nil, List.contains_cons, Bool.not_false, Bool.not_true, List.take_nil, List.range_zero, List.all_nil, List.all_cons, List.getD_cons_zero, List.getD_cons_succ, dite_true, valSV, cond_or, cond_and, implies_true, imp_self, decide_eq_true_eq, decide_eq_false_iff_not, runOps, runP, actOf, argE, argsE, bound, getE, putD, putE, putR, pruneE, owe, ret1, fit, quot, remd, binR, unR, beqR, beq_self_eq_true, pickB, fillL, setL, SV.cells, vals, subList, cellsLoad, rowLoad, loadR, storeR, faddrR, iaddrR, subR, srcL, apart0, appendR, rowLen, etOf, decs, fieldR, loOf, dstOk, allOne, S0.one, Value.oneCell', ET.enc, ET.sz, ET.dec, ET.dft, word_app, wordT_app, wordS_app, tbl_nil, tbl_cons, Int.toNat_natCast, Int.toNat_zero, Nat.reduceBEq, Nat.reduceBNe, Nat.blt, Nat.ble, cond_true, cond_false, true_and, and_true, forall_const, true_implies, decide_true, decide_false, Bool.and_true, Bool.and_false, Bool.true_and, Bool.false_and, Bool.or_false, Bool.or_true, Bool.true_or, Bool.false_or, reduceCtorEq, List.length_cons, List.length_nil, List.append_nil, List.nil_append, List.cons_append, List.getElem?_cons_zero, List.getElem?_cons_succ, List.getElem?_nil, tupSV, List.map_cons, List.map_nil, List.filterMap_cons, List.filterMap_nil, List.set_cons_zero, List.set_cons_succ, List.drop_zero, List.drop_succ_cons, List.take_succ_cons, List.take_zero, List.take_nil, List.drop_nil, Nat.reduceAdd, Nat.zero_add, Nat.add_zero, Nat.reduceMul, Nat.reduceLT, Nat.reduceLeDiff, bne_self_eq_false, bne_iff_ne, beq_self_eq_true, List.replicate, List.flatten_cons, List.flatten_nil, dite_true, dite_false]
          simp [lead, dsFrom]
        · intro k hk
          simp only [valSV, numL, nilS]
          have hll : (lead (dsFrom s (atE s) k)).length ≤ k := by
            have := lead_le (dsFrom s (atE s) k)
            rwa [dsFrom_length] at this
          have hsn := lead_snoc (dsFrom s (atE s) k) (dV s (atE s + k))
          rw [← dsFrom_succ] at hsn
          have hdz := dV_zero s (atE s + k)
          by_cases hlt : atE s + k < atF s
          · repeat' (first
    | with_reducible refine VC.seq ?_
    | with_reducible refine VC.skip ?_
    | with_reducible refine VC.block ?_
    | with_reducible refine VC.blk ?_
    | (refine VC.exit (by rfl) ?_)
    | (with_reducible refine VC.reg ?_; simp only [cond_or, cond_and, implies_true, imp_self, decide_eq_true_eq, decide_eq_false_iff_not, runOps, runP, actOf, argE, argsE, bound, getE, putD, putE, putR, pruneE, owe, ret1, fit, quot, remd, binR, unR, beqR, beq_self_eq_true, pickB, fillL, setL, SV.cells, vals, subList, cellsLoad, rowLoad, loadR, storeR, faddrR, iaddrR, subR, srcL, apart0, appendR, rowLen, etOf, decs, fieldR, loOf, dstOk, allOne, S0.one, Value.oneCell', ET.enc, ET.sz, ET.dec, ET.dft, word_app, wordT_app, wordS_app, tbl_nil, tbl_cons, Int.toNat_natCast, Int.toNat_zero, Nat.reduceBEq, Nat.reduceBNe, Nat.blt, Nat.ble, cond_true, cond_false, true_and, and_true, forall_const, true_implies, decide_true, decide_false, Bool.and_true, Bool.and_false, Bool.true_and, Bool.false_and, Bool.or_false, Bool.or_true, Bool.true_or, Bool.false_or, reduceCtorEq, List.length_cons, List.length_nil, List.append_nil, List.nil_append, List.cons_append, List.getElem?_cons_zero, List.getElem?_cons_succ, List.getElem?_nil, tupSV, List.map_cons, List.map_nil, List.filterMap_cons, List.filterMap_nil, List.set_cons_zero, List.set_cons_succ, List.drop_zero, List.drop_succ_cons, List.take_succ_cons, List.take_zero, List.take_nil, List.drop_nil, Nat.reduceAdd, Nat.zero_add, Nat.add_zero, Nat.reduceMul, Nat.reduceLT, Nat.reduceLeDiff, bne_self_eq_false, bne_iff_ne, beq_self_eq_true, List.replicate, List.flatten_cons, List.flatten_nil, dite_true, dite_false])
    | (with_reducible refine VC.regD ?_; simp only [runDraw, staticB, S0.ltB, cond_or, cond_and, implies_true, imp_self, decide_eq_true_eq, decide_eq_false_iff_not, runOps, runP, actOf, argE, argsE, bound, getE, putD, putE, putR, pruneE, owe, ret1, fit, quot, remd, binR, unR, beqR, beq_self_eq_true, pickB, fillL, setL, SV.cells, vals, subList, cellsLoad, rowLoad, loadR, storeR, faddrR, iaddrR, subR, srcL, apart0, appendR, rowLen, etOf, decs, fieldR, loOf, dstOk, allOne, S0.one, Value.oneCell', ET.enc, ET.sz, ET.dec, ET.dft, word_app, wordT_app, wordS_app, tbl_nil, tbl_cons, Int.toNat_natCast, Int.toNat_zero, Nat.reduceBEq, Nat.reduceBNe, Nat.blt, Nat.ble, cond_true, cond_false, true_and, and_true, forall_const, true_implies, decide_true, decide_false, Bool.and_true, Bool.and_false, Bool.true_and, Bool.false_and, Bool.or_false, Bool.or_true, Bool.true_or, Bool.false_or, reduceCtorEq, List.length_cons, List.length_nil, List.append_nil, List.nil_append, List.cons_append, List.getElem?_cons_zero, List.getElem?_cons_succ, List.getElem?_nil, tupSV, List.map_cons, List.map_nil, List.filterMap_cons, List.filterMap_nil, List.set_cons_zero, List.set_cons_succ, List.drop_zero, List.drop_succ_cons, List.take_succ_cons, List.take_zero, List.take_nil, List.drop_nil, Nat.reduceAdd, Nat.zero_add, Nat.add_zero, Nat.reduceMul, Nat.reduceLT, Nat.reduceLeDiff, bne_self_eq_false, bne_iff_ne, beq_self_eq_true, List.replicate, List.flatten_cons, List.flatten_nil, dite_true, dite_false])
    | (with_reducible refine VC.ret ?_; simp only [FinOK, resE, rvE, mkRes, cond_or, cond_and, implies_true, imp_self, decide_eq_true_eq, decide_eq_false_iff_not, runOps, runP, actOf, argE, argsE, bound, getE, putD, putE, putR, pruneE, owe, ret1, fit, quot, remd, binR, unR, beqR, beq_self_eq_true, pickB, fillL, setL, SV.cells, vals, subList, cellsLoad, rowLoad, loadR, storeR, faddrR, iaddrR, subR, srcL, apart0, appendR, rowLen, etOf, decs, fieldR, loOf, dstOk, allOne, S0.one, Value.oneCell', ET.enc, ET.sz, ET.dec, ET.dft, word_app, wordT_app, wordS_app, tbl_nil, tbl_cons, Int.toNat_natCast, Int.toNat_zero, Nat.reduceBEq, Nat.reduceBNe, Nat.blt, Nat.ble, cond_true, cond_false, true_and, and_true, forall_const, true_implies, decide_true, decide_false, Bool.and_true, Bool.and_false, Bool.true_and, Bool.false_and, Bool.or_false, Bool.or_true, Bool.true_or, Bool.false_or, reduceCtorEq, List.length_cons, List.length_nil, List.append_nil, List.nil_append, List.cons_append, List.getElem?_cons_zero, List.getElem?_cons_succ, List.getElem?_nil, tupSV, List.map_cons, List.map_nil, List.filterMap_cons, List.filterMap_nil, List.set_cons_zero, List.set_cons_succ, List.drop_zero, List.drop_succ_cons, List.take_succ_cons, List.take_zero, List.take_nil, List.drop_nil, Nat.reduceAdd, Nat.zero_add, Nat.add_zero, Nat.reduceMul, Nat.reduceLT, Nat.reduceLeDiff, bne_self_eq_false, bne_iff_ne, beq_self_eq_true, List.replicate, List.flatten_cons, List.flatten_nil, dite_true, dite_false])
    | with_reducible refine VC.mid ?_
    | (refine And.intro (by first | omega | (unfold InI64; omega) | (intros; simp_all; done) | (intros; simp_all [InI64, InI32]; omega)) ?_)
    | (refine VC.condT (by rfl) (fun h => ?_) (fun h => ?_) <;> (try (cases h; done)) <;> (try simp only [decide_eq_true_eq, decide_eq_false_iff_not, Bool.and_eq_true, Bool.or_eq_true, Bool.and_eq_false_iff, Bool.or_eq_false_iff, Bool.not_eq_true', Bool.not_eq_false', not_true_eq_false, not_false_eq_true, or_false, or_true, false_or, true_or, and_true, true_and, and_false, false_and] at h) <;> (try (simp only [*, reduceCtorEq] at h; done)) <;> (try (exfalso; omega; done))))
            · refine ⟨k + 1, [0, 1, 4], [], by omega, by omega, ?_⟩
              simp only [numL, nilS, Weak, weakSl, weakHp, sameSB, eqSV, eqSC, eqL, eqS0, nils,  SV.ren, SC.ren, S0.ren, SV.ltB, SC.ltB, S0.ltB, nodupB, List.contains_nil, List.contains_cons, Bool.not_false, Bool.not_true, List.take_nil, List.range_zero, List.all_nil, List.all_cons, List.getD_cons_zero, List.getD_cons_succ, dite_true, valSV, cond_or, cond_and, implies_true, imp_self, decide_eq_true_eq, decide_eq_false_iff_not, runOps, runP, actOf, argE, argsE, bound, getE, putD, putE, putR, pruneE, owe, ret1, fit, quot, remd, binR, unR, beqR, beq_self_eq_true, pickB, fillL, setL, SV.cells, vals, subList, cellsLoad, rowLoad, loadR, storeR, faddrR, iaddrR, subR, srcL, apart0, appendR, rowLen, etOf, decs, fieldR, loOf, dstOk, allOne, S0.one, Value.oneCell', ET.enc, ET.sz, ET.dec, ET.dft, word_app, wordT_app, wordS_app, tbl_nil, tbl_cons, Int.toNat_natCast, Int.toNat_zero, Nat.reduceBEq, Nat.reduceBNe, Nat.blt, Nat.ble, cond_true, cond_false, true_and, and_true, forall_const, true_implies, decide_true, decide_false, Bool.and_true, Bool.and_false, Bool.true_and, Bool.false_and, Bool.or_false, Bool.or_true, Bool.true_or, Bool.false_or, reduceCtorEq, List.length_cons, List.length_nil, List.append_nil, List.nil_append, List.cons_append, List.getElem?_cons_zero, List.getElem?_cons_succ, List.getElem?_nil, tupSV, List.map_cons, List.map_nil, List.filterMap_cons, List.filterMap_nil, List.set_cons_zero, List.set_cons_succ, List.drop_zero, List.drop_succ_cons, List.take_succ_cons, List.take_zero, List.take_nil, List.drop_nil, Nat.reduceAdd, Nat.zero_add, Nat.add_zero, Nat.reduceMul, Nat.reduceLT, Nat.reduceLeDiff, bne_self_eq_false, bne_iff_ne, beq_self_eq_true, List.replicate, List.flatten_cons, List.flatten_nil, dite_true, dite_false]
              refine ⟨?_, by rw [show ((atE s + k : Nat) : Int) + 1 = ((atE s + (k + 1) : Nat) : Int) by omega]⟩
              rw [hsn, if_pos]
              · rfl
              · rw [ne_eq, hdz]; omega
            · refine ⟨k + 1, [0, 1, 2], [], by omega, by omega, ?_⟩
              simp only [numL, nilS, Weak, weakSl, weakHp, sameSB, eqSV, eqSC, eqL, eqS0, nils,  SV.ren, SC.ren, S0.ren, SV.ltB, SC.ltB, S0.ltB, nodupB, List.contains_nil, List.contains_cons, Bool.not_false, Bool.not_true, List.take_nil, List.range_zero, List.all_nil, List.all_cons, List.getD_cons_zero, List.getD_cons_succ, dite_true, valSV, cond_or, cond_and, implies_true, imp_self, decide_eq_true_eq, decide_eq_false_iff_not, runOps, runP, actOf, argE, argsE, bound, getE, putD, putE, putR, pruneE, owe, ret1, fit, quot, remd, binR, unR, beqR, beq_self_eq_true, pickB, fillL, setL, SV.cells, vals, subList, cellsLoad, rowLoad, loadR, storeR, faddrR, iaddrR, subR, srcL, apart0, appendR, rowLen, etOf, decs, fieldR, loOf, dstOk, allOne, S0.one, Value.oneCell', ET.enc, ET.sz, ET.dec, ET.dft, word_app, wordT_app, wordS_app, tbl_nil, tbl_cons, Int.toNat_natCast, Int.toNat_zero, Nat.reduceBEq, Nat.reduceBNe, Nat.blt, Nat.ble, cond_true, cond_false, true_and, and_true, forall_const, true_implies, decide_true, decide_false, Bool.and_true, Bool.and_false, Bool.true_and, Bool.false_and, Bool.or_false, Bool.or_true, Bool.true_or, Bool.false_or, reduceCtorEq, List.length_cons, List.length_nil, List.append_nil, List.nil_append, List.cons_append, List.getElem?_cons_zero, List.getElem?_cons_succ, List.getElem?_nil, tupSV, List.map_cons, List.map_nil, List.filterMap_cons, List.filterMap_nil, List.set_cons_zero, List.set_cons_succ, List.drop_zero, List.drop_succ_cons, List.take_succ_cons, List.take_zero, List.take_nil, List.drop_nil, Nat.reduceAdd, Nat.zero_add, Nat.add_zero, Nat.reduceMul, Nat.reduceLT, Nat.reduceLeDiff, bne_self_eq_false, bne_iff_ne, beq_self_eq_true, List.replicate, List.flatten_cons, List.flatten_nil, dite_true, dite_false]
              refine ⟨?_, by rw [show ((atE s + k : Nat) : Int) + 1 = ((atE s + (k + 1) : Nat) : Int) by omega]⟩
              rw [hsn, if_neg]
              · exact List.eq_nil_of_length_eq_zero (by omega)
              · rw [ne_eq, hdz]; omega
          · repeat' (first
    | with_reducible refine VC.seq ?_
    | with_reducible refine VC.skip ?_
    | with_reducible refine VC.block ?_
    | with_reducible refine VC.blk ?_
    | (refine VC.exit (by rfl) ?_)
    | (with_reducible refine VC.reg ?_; simp only [cond_or, cond_and, implies_true, imp_self, decide_eq_true_eq, decide_eq_false_iff_not, runOps, runP, actOf, argE, argsE, bound, getE, putD, putE, putR, pruneE, owe, ret1, fit, quot, remd, binR, unR, beqR, beq_self_eq_true, pickB, fillL, setL, SV.cells, vals, subList, cellsLoad, rowLoad, loadR, storeR, faddrR, iaddrR, subR, srcL, apart0, appendR, rowLen, etOf, decs, fieldR, loOf, dstOk, allOne, S0.one, Value.oneCell', ET.enc, ET.sz, ET.dec, ET.dft, word_app, wordT_app, wordS_app, tbl_nil, tbl_cons, Int.toNat_natCast, Int.toNat_zero, Nat.reduceBEq, Nat.reduceBNe, Nat.blt, Nat.ble, cond_true, cond_false, true_and, and_true, forall_const, true_implies, decide_true, decide_false, Bool.and_true, Bool.and_false, Bool.true_and, Bool.false_and, Bool.or_false, Bool.or_true, Bool.true_or, Bool.false_or, reduceCtorEq, List.length_cons, List.length_nil, List.append_nil, List.nil_append, List.cons_append, List.getElem?_cons_zero, List.getElem?_cons_succ, List.getElem?_nil, tupSV, List.map_cons, List.map_nil, List.filterMap_cons, List.filterMap_nil, List.set_cons_zero, List.set_cons_succ, List.drop_zero, List.drop_succ_cons, List.take_succ_cons, List.take_zero, List.take_nil, List.drop_nil, Nat.reduceAdd, Nat.zero_add, Nat.add_zero, Nat.reduceMul, Nat.reduceLT, Nat.reduceLeDiff, bne_self_eq_false, bne_iff_ne, beq_self_eq_true, List.replicate, List.flatten_cons, List.flatten_nil, dite_true, dite_false])
    | (with_reducible refine VC.regD ?_; simp only [runDraw, staticB, S0.ltB, cond_or, cond_and, implies_true, imp_self, decide_eq_true_eq, decide_eq_false_iff_not, runOps, runP, actOf, argE, argsE, bound, getE, putD, putE, putR, pruneE, owe, ret1, fit, quot, remd, binR, unR, beqR, beq_self_eq_true, pickB, fillL, setL, SV.cells, vals, subList, cellsLoad, rowLoad, loadR, storeR, faddrR, iaddrR, subR, srcL, apart0, appendR, rowLen, etOf, decs, fieldR, loOf, dstOk, allOne, S0.one, Value.oneCell', ET.enc, ET.sz, ET.dec, ET.dft, word_app, wordT_app, wordS_app, tbl_nil, tbl_cons, Int.toNat_natCast, Int.toNat_zero, Nat.reduceBEq, Nat.reduceBNe, Nat.blt, Nat.ble, cond_true, cond_false, true_and, and_true, forall_const, true_implies, decide_true, decide_false, Bool.and_true, Bool.and_false, Bool.true_and, Bool.false_and, Bool.or_false, Bool.or_true, Bool.true_or, Bool.false_or, reduceCtorEq, List.length_cons, List.length_nil, List.append_nil, List.nil_append, List.cons_append, List.getElem?_cons_zero, List.getElem?_cons_succ, List.getElem?_nil, tupSV, List.map_cons, List.map_nil, List.filterMap_cons, List.filterMap_nil, List.set_cons_zero, List.set_cons_succ, List.drop_zero, List.drop_succ_cons, List.take_succ_cons, List.take_zero, List.take_nil, List.drop_nil, Nat.reduceAdd, Nat.zero_add, Nat.add_zero, Nat.reduceMul, Nat.reduceLT, Nat.reduceLeDiff, bne_self_eq_false, bne_iff_ne, beq_self_eq_true, List.replicate, List.flatten_cons, List.flatten_nil, dite_true, dite_false])
    | (with_reducible refine VC.ret ?_; simp only [FinOK, resE, rvE, mkRes, cond_or, cond_and, implies_true, imp_self, decide_eq_true_eq, decide_eq_false_iff_not, runOps, runP, actOf, argE, argsE, bound, getE, putD, putE, putR, pruneE, owe, ret1, fit, quot, remd, binR, unR, beqR, beq_self_eq_true, pickB, fillL, setL, SV.cells, vals, subList, cellsLoad, rowLoad, loadR, storeR, faddrR, iaddrR, subR, srcL, apart0, appendR, rowLen, etOf, decs, fieldR, loOf, dstOk, allOne, S0.one, Value.oneCell', ET.enc, ET.sz, ET.dec, ET.dft, word_app, wordT_app, wordS_app, tbl_nil, tbl_cons, Int.toNat_natCast, Int.toNat_zero, Nat.reduceBEq, Nat.reduceBNe, Nat.blt, Nat.ble, cond_true, cond_false, true_and, and_true, forall_const, true_implies, decide_true, decide_false, Bool.and_true, Bool.and_false, Bool.true_and, Bool.false_and, Bool.or_false, Bool.or_true, Bool.true_or, Bool.false_or, reduceCtorEq, List.length_cons, List.length_nil, List.append_nil, List.nil_append, List.cons_append, List.getElem?_cons_zero, List.getElem?_cons_succ, List.getElem?_nil, tupSV, List.map_cons, List.map_nil, List.filterMap_cons, List.filterMap_nil, List.set_cons_zero, List.set_cons_succ, List.drop_zero, List.drop_succ_cons, List.take_succ_cons, List.take_zero, List.take_nil, List.drop_nil, Nat.reduceAdd, Nat.zero_add, Nat.add_zero, Nat.reduceMul, Nat.reduceLT, Nat.reduceLeDiff, bne_self_eq_false, bne_iff_ne, beq_self_eq_true, List.replicate, List.flatten_cons, List.flatten_nil, dite_true, dite_false])
    | with_reducible refine VC.mid ?_
    | (refine And.intro (by first | omega | (unfold InI64; omega) | (intros; simp_all; done) | (intros; simp_all [InI64, InI32]; omega)) ?_)
    | (refine VC.condT (by rfl) (fun h => ?_) (fun h => ?_) <;> (try (cases h; done)) <;> (try simp only [decide_eq_true_eq, decide_eq_false_iff_not, Bool.and_eq_true, Bool.or_eq_true, Bool.and_eq_false_iff, Bool.or_eq_false_iff, Bool.not_eq_true', Bool.not_eq_false', not_true_eq_false, not_false_eq_true, or_false, or_true, false_or, true_or, and_true, true_and, and_false, false_and] at h) <;> (try (simp only [*, reduceCtorEq] at h; done)) <;> (try (exfalso; omega; done))))
            have hke : atE s + k = atF s := by omega
            refine ⟨(), [0, 1, 2], [], hk', ?_⟩
            simp only [numL, nilS, Weak, weakSl, weakHp, sameSB, eqSV, eqSC, eqL, eqS0, nils,  SV.ren, SC.ren, S0.ren, SV.ltB, SC.ltB, S0.ltB, nodupB, List.contains_nil, List.contains_cons, Bool.not_false, Bool.not_true, List.take_nil, List.range_zero, List.all_nil, List.all_cons, List.getD_cons_zero, List.getD_cons_succ, dite_true, valSV, cond_or, cond_and, implies_true, imp_self, decide_eq_true_eq, decide_eq_false_iff_not, runOps, runP, actOf, argE, argsE, bound, getE, putD, putE, putR, pruneE, owe, ret1, fit, quot, remd, binR, unR, beqR, beq_self_eq_true, pickB, fillL, setL, SV.cells, vals, subList, cellsLoad, rowLoad, loadR, storeR, faddrR, iaddrR, subR, srcL, apart0, appendR, rowLen, etOf, decs, fieldR, loOf, dstOk, allOne, S0.one, Value.oneCell', ET.enc, ET.sz, ET.dec, ET.dft, word_app, wordT_app, wordS_app, tbl_nil, tbl_cons, Int.toNat_natCast, Int.toNat_zero, Nat.reduceBEq, Nat.reduceBNe, Nat.blt, Nat.ble, cond_true, cond_false, true_and, and_true, forall_const, true_implies, decide_true, decide_false, Bool.and_true, Bool.and_false, Bool.true_and, Bool.false_and, Bool.or_false, Bool.or_true, Bool.true_or, Bool.false_or, reduceCtorEq, List.length_cons, List.length_nil, List.append_nil, List.nil_append, List.cons_append, List.getElem?_cons_zero, List.getElem?_cons_succ, List.getElem?_nil, tupSV, List.map_cons, List.map_nil, List.filterMap_cons, List.filterMap_nil, List.set_cons_zero, List.set_cons_succ, List.drop_zero, List.drop_succ_cons, List.take_succ_cons, List.take_zero, List.take_nil, List.drop_nil, Nat.reduceAdd, Nat.zero_add, Nat.add_zero, Nat.reduceMul, Nat.reduceLT, Nat.reduceLeDiff, bne_self_eq_false, bne_iff_ne, beq_self_eq_true, List.replicate, List.flatten_cons, List.flatten_nil, dite_true, dite_false]
            simp only [readS, he, atG, if_true, ← hke, Nat.add_sub_cancel_left]
            trivial
      · have hro : readOk s = false := by simp [readOk, he, hk]
        repeat' (first
    | with_reducible refine VC.seq ?_
    | with_reducible refine VC.skip ?_
    | with_reducible refine VC.block ?_
    | with_reducible refine VC.blk ?_
    | (refine VC.exit (by rfl) ?_)
    | (with_reducible refine VC.reg ?_; simp only [cond_or, cond_and, implies_true, imp_self, decide_eq_true_eq, decide_eq_false_iff_not, runOps, runP, actOf, argE, argsE, bound, getE, putD, putE, putR, pruneE, owe, ret1, fit, quot, remd, binR, unR, beqR, beq_self_eq_true, pickB, fillL, setL, SV.cells, vals, subList, cellsLoad, rowLoad, loadR, storeR, faddrR, iaddrR, subR, srcL, apart0, appendR, rowLen, etOf, decs, fieldR, loOf, dstOk, allOne, S0.one, Value.oneCell', ET.enc, ET.sz, ET.dec, ET.dft, word_app, wordT_app, wordS_app, tbl_nil, tbl_cons, Int.toNat_natCast, Int.toNat_zero, Nat.reduceBEq, Nat.reduceBNe, Nat.blt, Nat.ble, cond_true, cond_false, true_and, and_true, forall_const, true_implies, decide_true, decide_false, Bool.and_true, Bool.and_false, Bool.true_and, Bool.false_and, Bool.or_false, Bool.or_true, Bool.true_or, Bool.false_or, reduceCtorEq, List.length_cons, List.length_nil, List.append_nil, List.nil_append, List.cons_append, List.getElem?_cons_zero, List.getElem?_cons_succ, List.getElem?_nil, tupSV, List.map_cons, List.map_nil, List.filterMap_cons, List.filterMap_nil, List.set_cons_zero, List.set_cons_succ, List.drop_zero, List.drop_succ_cons, List.take_succ_cons, List.take_zero, List.take_nil, List.drop_nil, Nat.reduceAdd, Nat.zero_add, Nat.add_zero, Nat.reduceMul, Nat.reduceLT, Nat.reduceLeDiff, bne_self_eq_false, bne_iff_ne, beq_self_eq_true, List.replicate, List.flatten_cons, List.flatten_nil, dite_true, dite_false])
    | (with_reducible refine VC.regD ?_; simp only [runDraw, staticB, S0.ltB, cond_or, cond_and, implies_true, imp_self, decide_eq_true_eq, decide_eq_false_iff_not, runOps, runP, actOf, argE, argsE, bound, getE, putD, putE, putR, pruneE, owe, ret1, fit, quot, remd, binR, unR, beqR, beq_self_eq_true, pickB, fillL, setL, SV.cells, vals, subList, cellsLoad, rowLoad, loadR, storeR, faddrR, iaddrR, subR, srcL, apart0, appendR, rowLen, etOf, decs, fieldR, loOf, dstOk, allOne, S0.one, Value.oneCell', ET.enc, ET.sz, ET.dec, ET.dft, word_app, wordT_app, wordS_app, tbl_nil, tbl_cons, Int.toNat_natCast, Int.toNat_zero, Nat.reduceBEq, Nat.reduceBNe, Nat.blt, Nat.ble, cond_true, cond_false, true_and, and_true, forall_const, true_implies, decide_true, decide_false, Bool.and_true, Bool.and_false, Bool.true_and, Bool.false_and, Bool.or_false, Bool.or_true, Bool.true_or, Bool.false_or, reduceCtorEq, List.length_cons, List.length_nil, List.append_nil, List.nil_append, List.cons_append, List.getElem?_cons_zero, List.getElem?_cons_succ, List.getElem?_nil, tupSV, List.map_cons, List.map_nil, List.filterMap_cons, List.filterMap_nil, List.set_cons_zero, List.set_cons_succ, List.drop_zero, List.drop_succ_cons, List.take_succ_cons, List.take_zero, List.take_nil, List.drop_nil, Nat.reduceAdd, Nat.zero_add, Nat.add_zero, Nat.reduceMul, Nat.reduceLT, Nat.reduceLeDiff, bne_self_eq_false, bne_iff_ne, beq_self_eq_true, List.replicate, List.flatten_cons, List.flatten_nil, dite_true, dite_false])
    | (with_reducible refine VC.ret ?_; simp only [FinOK, resE, rvE, mkRes, cond_or, cond_and, implies_true, imp_self, decide_eq_true_eq, decide_eq_false_iff_not, runOps, runP, actOf, argE, argsE, bound, getE, putD, putE, putR, pruneE, owe, ret1, fit, quot, remd, binR, unR, beqR, beq_self_eq_true, pickB, fillL, setL, SV.cells, vals, subList, cellsLoad, rowLoad, loadR, storeR, faddrR, iaddrR, subR, srcL, apart0, appendR, rowLen, etOf, decs, fieldR, loOf, dstOk, allOne, S0.one, Value.oneCell', ET.enc, ET.sz, ET.dec, ET.dft, word_app, wordT_app, wordS_app, tbl_nil, tbl_cons, Int.toNat_natCast, Int.toNat_zero, Nat.reduceBEq, Nat.reduceBNe, Nat.blt, Nat.ble, cond_true, cond_false, true_and, and_true, forall_const, true_implies, decide_true, decide_false, Bool.and_true, Bool.and_false, Bool.true_and, Bool.false_and, Bool.or_false, Bool.or_true, Bool.true_or, Bool.false_or, reduceCtorEq, List.length_cons, List.length_nil, List.append_nil, List.nil_append, List.cons_append, List.getElem?_cons_zero, List.getElem?_cons_succ, List.getElem?_nil, tupSV, List.map_cons, List.map_nil, List.filterMap_cons, List.filterMap_nil, List.set_cons_zero, List.set_cons_succ, List.drop_zero, List.drop_succ_cons, List.take_succ_cons, List.take_zero, List.take_nil, List.drop_nil, Nat.reduceAdd, Nat.zero_add, Nat.add_zero, Nat.reduceMul, Nat.reduceLT, Nat.reduceLeDiff, bne_self_eq_false, bne_iff_ne, beq_self_eq_true, List.replicate, List.flatten_cons, List.flatten_nil, dite_true, dite_false])
    | with_reducible refine VC.mid ?_
    | (refine And.intro (by first | omega | (unfold InI64; omega) | (intros; simp_all; done) | (intros; simp_all [InI64, InI32]; omega)) ?_)
    | (refine VC.condT (by rfl) (fun h => ?_) (fun h => ?_) <;> (try (cases h; done)) <;> (try simp only [decide_eq_true_eq, decide_eq_false_iff_not, Bool.and_eq_true, Bool.or_eq_true, Bool.and_eq_false_iff, Bool.or_eq_false_iff, Bool.not_eq_true', Bool.not_eq_false', not_true_eq_false, not_false_eq_true, or_false, or_true, false_or, true_or, and_true, true_and, and_false, false_and] at h) <;> (try (simp only [*, reduceCtorEq] at h; done)) <;> (try (exfalso; omega; done))))
        have hra := readAll_3 hbd hdk (by simp [he, of_decide_eq_true hk])
        refine ⟨nilS, nilS, ?_, .inl ⟨rfl, by rw [hra]⟩, .inl ⟨rfl, by rw [hra]⟩, fun i h => by cases h⟩
        rw [hra, hro]
        rfl
  intro _ hek
  simp only [valSV, numL, nilS]
  have hG := atG_le s
  repeat' (first
    | with_reducible refine VC.seq ?_
    | with_reducible refine VC.skip ?_
    | with_reducible refine VC.block ?_
    | with_reducible refine VC.blk ?_
    | (refine VC.exit (by rfl) ?_)
    | (with_reducible refine VC.reg ?_; simp only [cond_or, cond_and, implies_true, imp_self, decide_eq_true_eq, decide_eq_false_iff_not, runOps, runP, actOf, argE, argsE, bound, getE, putD, putE, putR, pruneE, owe, ret1, fit, quot, remd, binR, unR, beqR, beq_self_eq_true, pickB, fillL, setL, SV.cells, vals, subList, cellsLoad, rowLoad, loadR, storeR, faddrR, iaddrR, subR, srcL, apart0, appendR, rowLen, etOf, decs, fieldR, loOf, dstOk, allOne, S0.one, Value.oneCell', ET.enc, ET.sz, ET.dec, ET.dft, word_app, wordT_app, wordS_app, tbl_nil, tbl_cons, Int.toNat_natCast, Int.toNat_zero, Nat.reduceBEq, Nat.reduceBNe, Nat.blt, Nat.ble, cond_true, cond_false, true_and, and_true, forall_const, true_implies, decide_true, decide_false, Bool.and_true, Bool.and_false, Bool.true_and, Bool.false_and, Bool.or_false, Bool.or_true, Bool.true_or, Bool.false_or, reduceCtorEq, List.length_cons, List.length_nil, List.append_nil, List.nil_append, List.cons_append, List.getElem?_cons_zero, List.getElem?_cons_succ, List.getElem?_nil, tupSV, List.map_cons, List.map_nil, List.filterMap_cons, List.filterMap_nil, List.set_cons_zero, List.set_cons_succ, List.drop_zero, List.drop_succ_cons, List.take_succ_cons, List.take_zero, List.take_nil, List.drop_nil, Nat.reduceAdd, Nat.zero_add, Nat.add_zero, Nat.reduceMul, Nat.reduceLT, Nat.reduceLeDiff, bne_self_eq_false, bne_iff_ne, beq_self_eq_true, List.replicate, List.flatten_cons, List.flatten_nil, dite_true, dite_false])
    | (with_reducible refine VC.regD ?_; simp only [runDraw, staticB, S0.ltB, cond_or, cond_and, implies_true, imp_self, decide_eq_true_eq, decide_eq_false_iff_not, runOps, runP, actOf, argE, argsE, bound, getE, putD, putE, putR, pruneE, owe, ret1, fit, quot, remd, binR, unR, beqR, beq_self_eq_true, pickB, fillL, setL, SV.cells, vals, subList, cellsLoad, rowLoad, loadR, storeR, faddrR, iaddrR, subR, srcL, apart0, appendR, rowLen, etOf, decs, fieldR, loOf, dstOk, allOne, S0.one, Value.oneCell', ET.enc, ET.sz, ET.dec, ET.dft, word_app, wordT_app, wordS_app, tbl_nil, tbl_cons, Int.toNat_natCast, Int.toNat_zero, Nat.reduceBEq, Nat.reduceBNe, Nat.blt, Nat.ble, cond_true, cond_false, true_and, and_true, forall_const, true_implies, decide_true, decide_false, Bool.and_true, Bool.and_false, Bool.true_and, Bool.false_and, Bool.or_false, Bool.or_true, Bool.true_or, Bool.false_or, reduceCtorEq, List.length_cons, List.length_nil, List.append_nil, List.nil_append, List.cons_append, List.getElem?_cons_zero, List.getElem?_cons_succ, List.getElem?_nil, tupSV, List.map_cons, List.map_nil, List.filterMap_cons, List.filterMap_nil, List.set_cons_zero, List.set_cons_succ, List.drop_zero, List.drop_succ_cons, List.take_succ_cons, List.take_zero, List.take_nil, List.drop_nil, Nat.reduceAdd, Nat.zero_add, Nat.add_zero, Nat.reduceMul, Nat.reduceLT, Nat.reduceLeDiff, bne_self_eq_false, bne_iff_ne, beq_self_eq_true, List.replicate, List.flatten_cons, List.flatten_nil, dite_true, dite_false])
    | (with_reducible refine VC.ret ?_; simp only [FinOK, resE, rvE, mkRes, cond_or, cond_and, implies_true, imp_self, decide_eq_true_eq, decide_eq_false_iff_not, runOps, runP, actOf, argE, argsE, bound, getE, putD, putE, putR, pruneE, owe, ret1, fit, quot, remd, binR, unR, beqR, beq_self_eq_true, pickB, fillL, setL, SV.cells, vals, subList, cellsLoad, rowLoad, loadR, storeR, faddrR, iaddrR, subR, srcL, apart0, appendR, rowLen, etOf, decs, fieldR, loOf, dstOk, allOne, S0.one, Value.oneCell', ET.enc, ET.sz, ET.dec, ET.dft, word_app, wordT_app, wordS_app, tbl_nil, tbl_cons, Int.toNat_natCast, Int.toNat_zero, Nat.reduceBEq, Nat.reduceBNe, Nat.blt, Nat.ble, cond_true, cond_false, true_and, and_true, forall_const, true_implies, decide_true, decide_false, Bool.and_true, Bool.and_false, Bool.true_and, Bool.false_and, Bool.or_false, Bool.or_true, Bool.true_or, Bool.false_or, reduceCtorEq, List.length_cons, List.length_nil, List.append_nil, List.nil_append, List.cons_append, List.getElem?_cons_zero, List.getElem?_cons_succ, List.getElem?_nil, tupSV, List.map_cons, List.map_nil, List.filterMap_cons, List.filterMap_nil, List.set_cons_zero, List.set_cons_succ, List.drop_zero, List.drop_succ_cons, List.take_succ_cons, List.take_zero, List.take_nil, List.drop_nil, Nat.reduceAdd, Nat.zero_add, Nat.add_zero, Nat.reduceMul, Nat.reduceLT, Nat.reduceLeDiff, bne_self_eq_false, bne_iff_ne, beq_self_eq_true, List.replicate, List.flatten_cons, List.flatten_nil, dite_true, dite_false])
    | with_reducible refine VC.mid ?_
    | (refine And.intro (by first | omega | (unfold InI64; omega) | (intros; simp_all; done) | (intros; simp_all [InI64, InI32]; omega)) ?_))
  have hq : decide ((atG s : Int) = s.size) = decide (atG s = s.size) := by rw [decide_eq_decide]; omega
  rw [hq]
  cases hg : decide (atG s = s.size)
  case false =>
    have hro : readOk s = false := by simp [readOk, hg]
    repeat' (first
    | with_reducible refine VC.seq ?_
    | with_reducible refine VC.skip ?_
    | with_reducible refine VC.block ?_
    | with_reducible refine VC.blk ?_
    | (refine VC.exit (by rfl) ?_)
    | (with_reducible refine VC.reg ?_; simp only [cond_or, cond_and, implies_true, imp_self, decide_eq_true_eq, decide_eq_false_iff_not, runOps, runP, actOf, argE, argsE, bound, getE, putD, putE, putR, pruneE, owe, ret1, fit, quot, remd, binR, unR, beqR, beq_self_eq_true, pickB, fillL, setL, SV.cells, vals, subList, cellsLoad, rowLoad, loadR, storeR, faddrR, iaddrR, subR, srcL, apart0, appendR, rowLen, etOf, decs, fieldR, loOf, dstOk, allOne, S0.one, Value.oneCell', ET.enc, ET.sz, ET.dec, ET.dft, word_app, wordT_app, wordS_app, tbl_nil, tbl_cons, Int.toNat_natCast, Int.toNat_zero, Nat.reduceBEq, Nat.reduceBNe, Nat.blt, Nat.ble, cond_true, cond_false, true_and, and_true, forall_const, true_implies, decide_true, decide_false, Bool.and_true, Bool.and_false, Bool.true_and, Bool.false_and, Bool.or_false, Bool.or_true, Bool.true_or, Bool.false_or, reduceCtorEq, List.length_cons, List.length_nil, List.append_nil, List.nil_append, List.cons_append, List.getElem?_cons_zero, List.getElem?_cons_succ, List.getElem?_nil, tupSV, List.map_cons, List.map_nil, List.filterMap_cons, List.filterMap_nil, List.set_cons_zero, List.set_cons_succ, List.drop_zero, List.drop_succ_cons, List.take_succ_cons, List.take_zero, List.take_nil, List.drop_nil, Nat.reduceAdd, Nat.zero_add, Nat.add_zero, Nat.reduceMul, Nat.reduceLT, Nat.reduceLeDiff, bne_self_eq_false, bne_iff_ne, beq_self_eq_true, List.replicate, List.flatten_cons, List.flatten_nil, dite_true, dite_false])
    | (with_reducible refine VC.regD ?_; simp only [runDraw, staticB, S0.ltB, cond_or, cond_and, implies_true, imp_self, decide_eq_true_eq, decide_eq_false_iff_not, runOps, runP, actOf, argE, argsE, bound, getE, putD, putE, putR, pruneE, owe, ret1, fit, quot, remd, binR, unR, beqR, beq_self_eq_true, pickB, fillL, setL, SV.cells, vals, subList, cellsLoad, rowLoad, loadR, storeR, faddrR, iaddrR, subR, srcL, apart0, appendR, rowLen, etOf, decs, fieldR, loOf, dstOk, allOne, S0.one, Value.oneCell', ET.enc, ET.sz, ET.dec, ET.dft, word_app, wordT_app, wordS_app, tbl_nil, tbl_cons, Int.toNat_natCast, Int.toNat_zero, Nat.reduceBEq, Nat.reduceBNe, Nat.blt, Nat.ble, cond_true, cond_false, true_and, and_true, forall_const, true_implies, decide_true, decide_false, Bool.and_true, Bool.and_false, Bool.true_and, Bool.false_and, Bool.or_false, Bool.or_true, Bool.true_or, Bool.false_or, reduceCtorEq, List.length_cons, List.length_nil, List.append_nil, List.nil_append, List.cons_append, List.getElem?_cons_zero, List.getElem?_cons_succ, List.getElem?_nil, tupSV, List.map_cons, List.map_nil, List.filterMap_cons, List.filterMap_nil, List.set_cons_zero, List.set_cons_succ, List.drop_zero, List.drop_succ_cons, List.take_succ_cons, List.take_zero, List.take_nil, List.drop_nil, Nat.reduceAdd, Nat.zero_add, Nat.add_zero, Nat.reduceMul, Nat.reduceLT, Nat.reduceLeDiff, bne_self_eq_false, bne_iff_ne, beq_self_eq_true, List.replicate, List.flatten_cons, List.flatten_nil, dite_true, dite_false])
    | (with_reducible refine VC.ret ?_; simp only [FinOK, resE, rvE, mkRes, cond_or, cond_and, implies_true, imp_self, decide_eq_true_eq, decide_eq_false_iff_not, runOps, runP, actOf, argE, argsE, bound, getE, putD, putE, putR, pruneE, owe, ret1, fit, quot, remd, binR, unR, beqR, beq_self_eq_true, pickB, fillL, setL, SV.cells, vals, subList, cellsLoad, rowLoad, loadR, storeR, faddrR, iaddrR, subR, srcL, apart0, appendR, rowLen, etOf, decs, fieldR, loOf, dstOk, allOne, S0.one, Value.oneCell', ET.enc, ET.sz, ET.dec, ET.dft, word_app, wordT_app, wordS_app, tbl_nil, tbl_cons, Int.toNat_natCast, Int.toNat_zero, Nat.reduceBEq, Nat.reduceBNe, Nat.blt, Nat.ble, cond_true, cond_false, true_and, and_true, forall_const, true_implies, decide_true, decide_false, Bool.and_true, Bool.and_false, Bool.true_and, Bool.false_and, Bool.or_false, Bool.or_true, Bool.true_or, Bool.false_or, reduceCtorEq, List.length_cons, List.length_nil, List.append_nil, List.nil_append, List.cons_append, List.getElem?_cons_zero, List.getElem?_cons_succ, List.getElem?_nil, tupSV, List.map_cons, List.map_nil, List.filterMap_cons, List.filterMap_nil, List.set_cons_zero, List.set_cons_succ, List.drop_zero, List.drop_succ_cons, List.take_succ_cons, List.take_zero, List.take_nil, List.drop_nil, Nat.reduceAdd, Nat.zero_add, Nat.add_zero, Nat.reduceMul, Nat.reduceLT, Nat.reduceLeDiff, bne_self_eq_false, bne_iff_ne, beq_self_eq_true, List.replicate, List.flatten_cons, List.flatten_nil, dite_true, dite_false])
    | with_reducible refine VC.mid ?_
    | (refine And.intro (by first | omega | (unfold InI64; omega) | (intros; simp_all; done) | (intros; simp_all [InI64, InI32]; omega)) ?_)
    | (refine VC.condT (by rfl) (fun h => ?_) (fun h => ?_) <;> (try (cases h; done)) <;> (try simp only [decide_eq_true_eq, decide_eq_false_iff_not, Bool.and_eq_true, Bool.or_eq_true, Bool.and_eq_false_iff, Bool.or_eq_false_iff, Bool.not_eq_true', Bool.not_eq_false', not_true_eq_false, not_false_eq_true, or_false, or_true, false_or, true_or, and_true, true_and, and_false, false_and] at h) <;> (try (simp only [*, reduceCtorEq] at h; done)) <;> (try (exfalso; omega; done))))
    have hra := readAll_4 hbd hdk hek hg
    refine ⟨nilS, .own 2, ?_, .inl ⟨rfl, by rw [hra]⟩, .inr ⟨2, rfl, by rw [hra]; rfl⟩, fun i h => by cases h⟩
    rw [hra, hro]
    rfl
  have hro : readOk s = true := by simp [readOk, hbd, hdk, hek, hg]
  have hal : (allS s).size ≤ s.size + s.size := by
    unfold allS
    split <;> simp <;> omega
  refine VC.condT (by rfl) (fun h => by cases h) (fun _ => ?_)
  repeat' (first
    | with_reducible refine VC.seq ?_
    | with_reducible refine VC.skip ?_
    | with_reducible refine VC.block ?_
    | with_reducible refine VC.blk ?_
    | (refine VC.exit (by rfl) ?_)
    | (with_reducible refine VC.reg ?_; simp only [cond_or, cond_and, implies_true, imp_self, decide_eq_true_eq, decide_eq_false_iff_not, runOps, runP, actOf, argE, argsE, bound, getE, putD, putE, putR, pruneE, owe, ret1, fit, quot, remd, binR, unR, beqR, beq_self_eq_true, pickB, fillL, setL, SV.cells, vals, subList, cellsLoad, rowLoad, loadR, storeR, faddrR, iaddrR, subR, srcL, apart0, appendR, rowLen, etOf, decs, fieldR, loOf, dstOk, allOne, S0.one, Value.oneCell', ET.enc, ET.sz, ET.dec, ET.dft, word_app, wordT_app, wordS_app, tbl_nil, tbl_cons, Int.toNat_natCast, Int.toNat_zero, Nat.reduceBEq, Nat.reduceBNe, Nat.blt, Nat.ble, cond_true, cond_false, true_and, and_true, forall_const, true_implies, decide_true, decide_false, Bool.and_true, Bool.and_false, Bool.true_and, Bool.false_and, Bool.or_false, Bool.or_true, Bool.true_or, Bool.false_or, reduceCtorEq, List.length_cons, List.length_nil, List.append_nil, List.nil_append, List.cons_append, List.getElem?_cons_zero, List.getElem?_cons_succ, List.getElem?_nil, tupSV, List.map_cons, List.map_nil, List.filterMap_cons, List.filterMap_nil, List.set_cons_zero, List.set_cons_succ, List.drop_zero, List.drop_succ_cons, List.take_succ_cons, List.take_zero, List.take_nil, List.drop_nil, Nat.reduceAdd, Nat.zero_add, Nat.add_zero, Nat.reduceMul, Nat.reduceLT, Nat.reduceLeDiff, bne_self_eq_false, bne_iff_ne, beq_self_eq_true, List.replicate, List.flatten_cons, List.flatten_nil, dite_true, dite_false])
    | (with_reducible refine VC.regD ?_; simp only [runDraw, staticB, S0.ltB, cond_or, cond_and, implies_true, imp_self, decide_eq_true_eq, decide_eq_false_iff_not, runOps, runP, actOf, argE, argsE, bound, getE, putD, putE, putR, pruneE, owe, ret1, fit, quot, remd, binR, unR, beqR, beq_self_eq_true, pickB, fillL, setL, SV.cells, vals, subList, cellsLoad, rowLoad, loadR, storeR, faddrR, iaddrR, subR, srcL, apart0, appendR, rowLen, etOf, decs, fieldR, loOf, dstOk, allOne, S0.one, Value.oneCell', ET.enc, ET.sz, ET.dec, ET.dft, word_app, wordT_app, wordS_app, tbl_nil, tbl_cons, Int.toNat_natCast, Int.toNat_zero, Nat.reduceBEq, Nat.reduceBNe, Nat.blt, Nat.ble, cond_true, cond_false, true_and, and_true, forall_const, true_implies, decide_true, decide_false, Bool.and_true, Bool.and_false, Bool.true_and, Bool.false_and, Bool.or_false, Bool.or_true, Bool.true_or, Bool.false_or, reduceCtorEq, List.length_cons, List.length_nil, List.append_nil, List.nil_append, List.cons_append, List.getElem?_cons_zero, List.getElem?_cons_succ, List.getElem?_nil, tupSV, List.map_cons, List.map_nil, List.filterMap_cons, List.filterMap_nil, List.set_cons_zero, List.set_cons_succ, List.drop_zero, List.drop_succ_cons, List.take_succ_cons, List.take_zero, List.take_nil, List.drop_nil, Nat.reduceAdd, Nat.zero_add, Nat.add_zero, Nat.reduceMul, Nat.reduceLT, Nat.reduceLeDiff, bne_self_eq_false, bne_iff_ne, beq_self_eq_true, List.replicate, List.flatten_cons, List.flatten_nil, dite_true, dite_false])
    | (with_reducible refine VC.ret ?_; simp only [FinOK, resE, rvE, mkRes, cond_or, cond_and, implies_true, imp_self, decide_eq_true_eq, decide_eq_false_iff_not, runOps, runP, actOf, argE, argsE, bound, getE, putD, putE, putR, pruneE, owe, ret1, fit, quot, remd, binR, unR, beqR, beq_self_eq_true, pickB, fillL, setL, SV.cells, vals, subList, cellsLoad, rowLoad, loadR, storeR, faddrR, iaddrR, subR, srcL, apart0, appendR, rowLen, etOf, decs, fieldR, loOf, dstOk, allOne, S0.one, Value.oneCell', ET.enc, ET.sz, ET.dec, ET.dft, word_app, wordT_app, wordS_app, tbl_nil, tbl_cons, Int.toNat_natCast, Int.toNat_zero, Nat.reduceBEq, Nat.reduceBNe, Nat.blt, Nat.ble, cond_true, cond_false, true_and, and_true, forall_const, true_implies, decide_true, decide_false, Bool.and_true, Bool.and_false, Bool.true_and, Bool.false_and, Bool.or_false, Bool.or_true, Bool.true_or, Bool.false_or, reduceCtorEq, List.length_cons, List.length_nil, List.append_nil, List.nil_append, List.cons_append, List.getElem?_cons_zero, List.getElem?_cons_succ, List.getElem?_nil, tupSV, List.map_cons, List.map_nil, List.filterMap_cons, List.filterMap_nil, List.set_cons_zero, List.set_cons_succ, List.drop_zero, List.drop_succ_cons, List.take_succ_cons, List.take_zero, List.take_nil, List.drop_nil, Nat.reduceAdd, Nat.zero_add, Nat.add_zero, Nat.reduceMul, Nat.reduceLT, Nat.reduceLeDiff, bne_self_eq_false, bne_iff_ne, beq_self_eq_true, List.replicate, List.flatten_cons, List.flatten_nil, dite_true, dite_false])
    | with_reducible refine VC.mid ?_
    | (refine And.intro (by first | omega | (unfold InI64; omega) | (intros; simp_all; done) | (intros; simp_all [InI64, InI32]; omega)) ?_))
  refine VC.loop (fun k : Nat => ⟨[(0, True, valSV (.string s)), (2, True, .c (.o (.hd 0 0))), (3, True, valSV (.bool false)), (4, True, .c (.o (.hd 1 0))), (5, True, valSV (.int .i64 (atG s))), (6, True, valSV (.int .i64 (atA s))), (7, True, valSV (.string (allS s))), (11, True, valSV (.int .i64 k))],
    [.cells 55 (numL false nilS 0 false nilS false ⟨#[]⟩), .cells 55 (numL (decide (bAt s 0 = 45)) (.own 3) ((atB s : Int) - atA s - (k - (lead (dsFrom (allS s) 0 k)).length)) (readS s).down (.own 2) (!dotS s && !expS s) (s.extract (atA s) (atB s))), .row .i64 3 (readS s).exp, .row .i64 3 (lead (dsFrom (allS s) 0 k))]⟩)
    (fun k => k ≤ (allS s).size) (fun k => (allS s).size - k) 0 [0, 1, 2, 3] [(.i64, 3)] (Nat.zero_le _) ?_ ?_
  · simp only [numL, nilS, Weak, weakSl, weakHp, sameSB, eqSV, eqSC, eqL, eqS0, nils,  SV.ren, SC.ren, S0.ren, SV.ltB, SC.ltB, S0.ltB, nodupB, List.contains_nil, List.contains_cons, Bool.not_false, Bool.not_true, List.take_nil, List.range_zero, List.all_nil, List.all_cons, List.getD_cons_zero, List.getD_cons_succ, dite_true, valSV, cond_or, cond_and, implies_true, imp_self, decide_eq_true_eq, decide_eq_false_iff_not, runOps, runP, actOf, argE, argsE, bound, getE, putD, putE, putR, pruneE, owe, ret1, fit, quot, remd, binR, unR, beqR, beq_self_eq_true, pickB, fillL, setL, SV.cells, vals, subList, cellsLoad, rowLoad, loadR, storeR, faddrR, iaddrR, subR, srcL, apart0, appendR, rowLen, etOf, decs, fieldR, loOf, dstOk, allOne, S0.one, Value.oneCell', ET.enc, ET.sz, ET.dec, ET.dft, word_app, wordT_app, wordS_app, tbl_nil, tbl_cons, Int.toNat_natCast, Int.toNat_zero, Nat.reduceBEq, Nat.reduceBNe, Nat.blt, Nat.ble, cond_true, cond_false, true_and, and_true, forall_const, true_implies, decide_true, decide_false, Bool.and_true, Bool.and_false, Bool.true_and, Bool.false_and, Bool.or_false, Bool.or_true, Bool.true_or, Bool.false_or, reduceCtorEq, List.length_cons, List.length_nil, List.append_nil, List.nil_append, List.cons_append, List.getElem?_cons_zero, List.getElem?_cons_succ, List.getElem?_nil, tupSV, List.map_cons, List.map_nil, List.filterMap_cons, List.filterMap_nil, List.set_cons_zero, List.set_cons_succ, List.drop_zero, List.drop_succ_cons, List.take_succ_cons, List.take_zero, List.take_nil, List.drop_nil, Nat.reduceAdd, Nat.zero_add, Nat.add_zero, Nat.reduceMul, Nat.reduceLT, Nat.reduceLeDiff, bne_self_eq_false, bne_iff_ne, beq_self_eq_true, List.replicate, List.flatten_cons, List.flatten_nil, dite_true, dite_false]
    simp [lead, dsFrom]
  · intro k hk
    simp only [valSV, numL, nilS]
    have hll : (lead (dsFrom (allS s) 0 k)).length ≤ k := by
      have := lead_le (dsFrom (allS s) 0 k)
      rwa [dsFrom_length] at this
    have hsn := lead_snoc (dsFrom (allS s) 0 k) (dV (allS s) k)
    have hds := dsFrom_succ (allS s) 0 k
    rw [Nat.zero_add] at hds
    rw [← hds] at hsn
    have hdz := dV_zero (allS s) k
    by_cases hlt : k < (allS s).size
    · have hdv : dV (allS s) k = (bAt (allS s) k - 48) % 256 := rfl
      repeat' (first
    | with_reducible refine VC.seq ?_
    | with_reducible refine VC.skip ?_
    | with_reducible refine VC.block ?_
    | with_reducible refine VC.blk ?_
    | (refine VC.exit (by rfl) ?_)
    | (with_reducible refine VC.reg ?_; simp only [cond_or, cond_and, implies_true, imp_self, decide_eq_true_eq, decide_eq_false_iff_not, runOps, runP, actOf, argE, argsE, bound, getE, putD, putE, putR, pruneE, owe, ret1, fit, quot, remd, binR, unR, beqR, beq_self_eq_true, pickB, fillL, setL, SV.cells, vals, subList, cellsLoad, rowLoad, loadR, storeR, faddrR, iaddrR, subR, srcL, apart0, appendR, rowLen, etOf, decs, fieldR, loOf, dstOk, allOne, S0.one, Value.oneCell', ET.enc, ET.sz, ET.dec, ET.dft, word_app, wordT_app, wordS_app, tbl_nil, tbl_cons, Int.toNat_natCast, Int.toNat_zero, Nat.reduceBEq, Nat.reduceBNe, Nat.blt, Nat.ble, cond_true, cond_false, true_and, and_true, forall_const, true_implies, decide_true, decide_false, Bool.and_true, Bool.and_false, Bool.true_and, Bool.false_and, Bool.or_false, Bool.or_true, Bool.true_or, Bool.false_or, reduceCtorEq, List.length_cons, List.length_nil, List.append_nil, List.nil_append, List.cons_append, List.getElem?_cons_zero, List.getElem?_cons_succ, List.getElem?_nil, tupSV, List.map_cons, List.map_nil, List.filterMap_cons, List.filterMap_nil, List.set_cons_zero, List.set_cons_succ, List.drop_zero, List.drop_succ_cons, List.take_succ_cons, List.take_zero, List.take_nil, List.drop_nil, Nat.reduceAdd, Nat.zero_add, Nat.add_zero, Nat.reduceMul, Nat.reduceLT, Nat.reduceLeDiff, bne_self_eq_false, bne_iff_ne, beq_self_eq_true, List.replicate, List.flatten_cons, List.flatten_nil, dite_true, dite_false])
    | (with_reducible refine VC.regD ?_; simp only [runDraw, staticB, S0.ltB, cond_or, cond_and, implies_true, imp_self, decide_eq_true_eq, decide_eq_false_iff_not, runOps, runP, actOf, argE, argsE, bound, getE, putD, putE, putR, pruneE, owe, ret1, fit, quot, remd, binR, unR, beqR, beq_self_eq_true, pickB, fillL, setL, SV.cells, vals, subList, cellsLoad, rowLoad, loadR, storeR, faddrR, iaddrR, subR, srcL, apart0, appendR, rowLen, etOf, decs, fieldR, loOf, dstOk, allOne, S0.one, Value.oneCell', ET.enc, ET.sz, ET.dec, ET.dft, word_app, wordT_app, wordS_app, tbl_nil, tbl_cons, Int.toNat_natCast, Int.toNat_zero, Nat.reduceBEq, Nat.reduceBNe, Nat.blt, Nat.ble, cond_true, cond_false, true_and, and_true, forall_const, true_implies, decide_true, decide_false, Bool.and_true, Bool.and_false, Bool.true_and, Bool.false_and, Bool.or_false, Bool.or_true, Bool.true_or, Bool.false_or, reduceCtorEq, List.length_cons, List.length_nil, List.append_nil, List.nil_append, List.cons_append, List.getElem?_cons_zero, List.getElem?_cons_succ, List.getElem?_nil, tupSV, List.map_cons, List.map_nil, List.filterMap_cons, List.filterMap_nil, List.set_cons_zero, List.set_cons_succ, List.drop_zero, List.drop_succ_cons, List.take_succ_cons, List.take_zero, List.take_nil, List.drop_nil, Nat.reduceAdd, Nat.zero_add, Nat.add_zero, Nat.reduceMul, Nat.reduceLT, Nat.reduceLeDiff, bne_self_eq_false, bne_iff_ne, beq_self_eq_true, List.replicate, List.flatten_cons, List.flatten_nil, dite_true, dite_false])
    | (with_reducible refine VC.ret ?_; simp only [FinOK, resE, rvE, mkRes, cond_or, cond_and, implies_true, imp_self, decide_eq_true_eq, decide_eq_false_iff_not, runOps, runP, actOf, argE, argsE, bound, getE, putD, putE, putR, pruneE, owe, ret1, fit, quot, remd, binR, unR, beqR, beq_self_eq_true, pickB, fillL, setL, SV.cells, vals, subList, cellsLoad, rowLoad, loadR, storeR, faddrR, iaddrR, subR, srcL, apart0, appendR, rowLen, etOf, decs, fieldR, loOf, dstOk, allOne, S0.one, Value.oneCell', ET.enc, ET.sz, ET.dec, ET.dft, word_app, wordT_app, wordS_app, tbl_nil, tbl_cons, Int.toNat_natCast, Int.toNat_zero, Nat.reduceBEq, Nat.reduceBNe, Nat.blt, Nat.ble, cond_true, cond_false, true_and, and_true, forall_const, true_implies, decide_true, decide_false, Bool.and_true, Bool.and_false, Bool.true_and, Bool.false_and, Bool.or_false, Bool.or_true, Bool.true_or, Bool.false_or, reduceCtorEq, List.length_cons, List.length_nil, List.append_nil, List.nil_append, List.cons_append, List.getElem?_cons_zero, List.getElem?_cons_succ, List.getElem?_nil, tupSV, List.map_cons, List.map_nil, List.filterMap_cons, List.filterMap_nil, List.set_cons_zero, List.set_cons_succ, List.drop_zero, List.drop_succ_cons, List.take_succ_cons, List.take_zero, List.take_nil, List.drop_nil, Nat.reduceAdd, Nat.zero_add, Nat.add_zero, Nat.reduceMul, Nat.reduceLT, Nat.reduceLeDiff, bne_self_eq_false, bne_iff_ne, beq_self_eq_true, List.replicate, List.flatten_cons, List.flatten_nil, dite_true, dite_false])
    | with_reducible refine VC.mid ?_
    | (refine And.intro (by first | omega | (unfold InI64; omega) | (intros; simp_all; done) | (intros; simp_all [InI64, InI32]; omega)) ?_)
    | (refine VC.condT (by rfl) (fun h => ?_) (fun h => ?_) <;> (try (cases h; done)) <;> (try simp only [decide_eq_true_eq, decide_eq_false_iff_not, Bool.and_eq_true, Bool.or_eq_true, Bool.and_eq_false_iff, Bool.or_eq_false_iff, Bool.not_eq_true', Bool.not_eq_false', not_true_eq_false, not_false_eq_true, or_false, or_true, false_or, true_or, and_true, true_and, and_false, false_and] at h) <;> (try (simp only [*, reduceCtorEq] at h; done)) <;> (try (exfalso; omega; done))))
      · refine ⟨k + 1, [0, 1, 2, 5], [], by omega, by omega, ?_⟩
        simp only [numL, nilS, Weak, weakSl, weakHp, sameSB, eqSV, eqSC, eqL, eqS0, nils,  SV.ren, SC.ren, S0.ren, SV.ltB, SC.ltB, S0.ltB, nodupB, List.contains_nil, List.contains_cons, Bool.not_false, Bool.not_true, List.take_nil, List.range_zero, List.all_nil, List.all_cons, List.getD_cons_zero, List.getD_cons_succ, dite_true, valSV, cond_or, cond_and, implies_true, imp_self, decide_eq_true_eq, decide_eq_false_iff_not, runOps, runP, actOf, argE, argsE, bound, getE, putD, putE, putR, pruneE, owe, ret1, fit, quot, remd, binR, unR, beqR, beq_self_eq_true, pickB, fillL, setL, SV.cells, vals, subList, cellsLoad, rowLoad, loadR, storeR, faddrR, iaddrR, subR, srcL, apart0, appendR, rowLen, etOf, decs, fieldR, loOf, dstOk, allOne, S0.one, Value.oneCell', ET.enc, ET.sz, ET.dec, ET.dft, word_app, wordT_app, wordS_app, tbl_nil, tbl_cons, Int.toNat_natCast, Int.toNat_zero, Nat.reduceBEq, Nat.reduceBNe, Nat.blt, Nat.ble, cond_true, cond_false, true_and, and_true, forall_const, true_implies, decide_true, decide_false, Bool.and_true, Bool.and_false, Bool.true_and, Bool.false_and, Bool.or_false, Bool.or_true, Bool.true_or, Bool.false_or, reduceCtorEq, List.length_cons, List.length_nil, List.append_nil, List.nil_append, List.cons_append, List.getElem?_cons_zero, List.getElem?_cons_succ, List.getElem?_nil, tupSV, List.map_cons, List.map_nil, List.filterMap_cons, List.filterMap_nil, List.set_cons_zero, List.set_cons_succ, List.drop_zero, List.drop_succ_cons, List.take_succ_cons, List.take_zero, List.take_nil, List.drop_nil, Nat.reduceAdd, Nat.zero_add, Nat.add_zero, Nat.reduceMul, Nat.reduceLT, Nat.reduceLeDiff, bne_self_eq_false, bne_iff_ne, beq_self_eq_true, List.replicate, List.flatten_cons, List.flatten_nil, dite_true, dite_false]
        rw [hsn, if_pos (by rw [ne_eq, hdv]; omega)]
        refine ⟨⟨?_, rfl⟩, by rw [show (k : Int) + 1 = ((k + 1 : Nat) : Int) by omega]⟩
        simp only [List.length_append, List.length_cons, List.length_nil, S0.val.injEq, Value.int.injEq, true_and]
        omega
      · refine ⟨k + 1, [0, 1, 2, 3], [], by omega, by omega, ?_⟩
        simp only [numL, nilS, Weak, weakSl, weakHp, sameSB, eqSV, eqSC, eqL, eqS0, nils,  SV.ren, SC.ren, S0.ren, SV.ltB, SC.ltB, S0.ltB, nodupB, List.contains_nil, List.contains_cons, Bool.not_false, Bool.not_true, List.take_nil, List.range_zero, List.all_nil, List.all_cons, List.getD_cons_zero, List.getD_cons_succ, dite_true, valSV, cond_or, cond_and, implies_true, imp_self, decide_eq_true_eq, decide_eq_false_iff_not, runOps, runP, actOf, argE, argsE, bound, getE, putD, putE, putR, pruneE, owe, ret1, fit, quot, remd, binR, unR, beqR, beq_self_eq_true, pickB, fillL, setL, SV.cells, vals, subList, cellsLoad, rowLoad, loadR, storeR, faddrR, iaddrR, subR, srcL, apart0, appendR, rowLen, etOf, decs, fieldR, loOf, dstOk, allOne, S0.one, Value.oneCell', ET.enc, ET.sz, ET.dec, ET.dft, word_app, wordT_app, wordS_app, tbl_nil, tbl_cons, Int.toNat_natCast, Int.toNat_zero, Nat.reduceBEq, Nat.reduceBNe, Nat.blt, Nat.ble, cond_true, cond_false, true_and, and_true, forall_const, true_implies, decide_true, decide_false, Bool.and_true, Bool.and_false, Bool.true_and, Bool.false_and, Bool.or_false, Bool.or_true, Bool.true_or, Bool.false_or, reduceCtorEq, List.length_cons, List.length_nil, List.append_nil, List.nil_append, List.cons_append, List.getElem?_cons_zero, List.getElem?_cons_succ, List.getElem?_nil, tupSV, List.map_cons, List.map_nil, List.filterMap_cons, List.filterMap_nil, List.set_cons_zero, List.set_cons_succ, List.drop_zero, List.drop_succ_cons, List.take_succ_cons, List.take_zero, List.take_nil, List.drop_nil, Nat.reduceAdd, Nat.zero_add, Nat.add_zero, Nat.reduceMul, Nat.reduceLT, Nat.reduceLeDiff, bne_self_eq_false, bne_iff_ne, beq_self_eq_true, List.replicate, List.flatten_cons, List.flatten_nil, dite_true, dite_false]
        have hl0 : lead (dsFrom (allS s) 0 k) = [] := List.eq_nil_of_length_eq_zero (by omega)
        rw [hsn, if_neg (by rw [ne_eq, hdv]; omega), hl0]
        refine ⟨⟨?_, rfl⟩, by rw [show (k : Int) + 1 = ((k + 1 : Nat) : Int) by omega]⟩
        simp only [List.length_nil, S0.val.injEq, Value.int.injEq, true_and]
        omega
    · have hkk : k = (allS s).size := by omega
      refine VC.seq ?_
      repeat' (first
    | with_reducible refine VC.seq ?_
    | with_reducible refine VC.skip ?_
    | with_reducible refine VC.block ?_
    | with_reducible refine VC.blk ?_
    | (refine VC.exit (by rfl) ?_)
    | (with_reducible refine VC.reg ?_; simp only [cond_or, cond_and, implies_true, imp_self, decide_eq_true_eq, decide_eq_false_iff_not, runOps, runP, actOf, argE, argsE, bound, getE, putD, putE, putR, pruneE, owe, ret1, fit, quot, remd, binR, unR, beqR, beq_self_eq_true, pickB, fillL, setL, SV.cells, vals, subList, cellsLoad, rowLoad, loadR, storeR, faddrR, iaddrR, subR, srcL, apart0, appendR, rowLen, etOf, decs, fieldR, loOf, dstOk, allOne, S0.one, Value.oneCell', ET.enc, ET.sz, ET.dec, ET.dft, word_app, wordT_app, wordS_app, tbl_nil, tbl_cons, Int.toNat_natCast, Int.toNat_zero, Nat.reduceBEq, Nat.reduceBNe, Nat.blt, Nat.ble, cond_true, cond_false, true_and, and_true, forall_const, true_implies, decide_true, decide_false, Bool.and_true, Bool.and_false, Bool.true_and, Bool.false_and, Bool.or_false, Bool.or_true, Bool.true_or, Bool.false_or, reduceCtorEq, List.length_cons, List.length_nil, List.append_nil, List.nil_append, List.cons_append, List.getElem?_cons_zero, List.getElem?_cons_succ, List.getElem?_nil, tupSV, List.map_cons, List.map_nil, List.filterMap_cons, List.filterMap_nil, List.set_cons_zero, List.set_cons_succ, List.drop_zero, List.drop_succ_cons, List.take_succ_cons, List.take_zero, List.take_nil, List.drop_nil, Nat.reduceAdd, Nat.zero_add, Nat.add_zero, Nat.reduceMul, Nat.reduceLT, Nat.reduceLeDiff, bne_self_eq_false, bne_iff_ne, beq_self_eq_true, List.replicate, List.flatten_cons, List.flatten_nil, dite_true, dite_false])
    | (with_reducible refine VC.regD ?_; simp only [runDraw, staticB, S0.ltB, cond_or, cond_and, implies_true, imp_self, decide_eq_true_eq, decide_eq_false_iff_not, runOps, runP, actOf, argE, argsE, bound, getE, putD, putE, putR, pruneE, owe, ret1, fit, quot, remd, binR, unR, beqR, beq_self_eq_true, pickB, fillL, setL, SV.cells, vals, subList, cellsLoad, rowLoad, loadR, storeR, faddrR, iaddrR, subR, srcL, apart0, appendR, rowLen, etOf, decs, fieldR, loOf, dstOk, allOne, S0.one, Value.oneCell', ET.enc, ET.sz, ET.dec, ET.dft, word_app, wordT_app, wordS_app, tbl_nil, tbl_cons, Int.toNat_natCast, Int.toNat_zero, Nat.reduceBEq, Nat.reduceBNe, Nat.blt, Nat.ble, cond_true, cond_false, true_and, and_true, forall_const, true_implies, decide_true, decide_false, Bool.and_true, Bool.and_false, Bool.true_and, Bool.false_and, Bool.or_false, Bool.or_true, Bool.true_or, Bool.false_or, reduceCtorEq, List.length_cons, List.length_nil, List.append_nil, List.nil_append, List.cons_append, List.getElem?_cons_zero, List.getElem?_cons_succ, List.getElem?_nil, tupSV, List.map_cons, List.map_nil, List.filterMap_cons, List.filterMap_nil, List.set_cons_zero, List.set_cons_succ, List.drop_zero, List.drop_succ_cons, List.take_succ_cons, List.take_zero, List.take_nil, List.drop_nil, Nat.reduceAdd, Nat.zero_add, Nat.add_zero, Nat.reduceMul, Nat.reduceLT, Nat.reduceLeDiff, bne_self_eq_false, bne_iff_ne, beq_self_eq_true, List.replicate, List.flatten_cons, List.flatten_nil, dite_true, dite_false])
    | (with_reducible refine VC.ret ?_; simp only [FinOK, resE, rvE, mkRes, cond_or, cond_and, implies_true, imp_self, decide_eq_true_eq, decide_eq_false_iff_not, runOps, runP, actOf, argE, argsE, bound, getE, putD, putE, putR, pruneE, owe, ret1, fit, quot, remd, binR, unR, beqR, beq_self_eq_true, pickB, fillL, setL, SV.cells, vals, subList, cellsLoad, rowLoad, loadR, storeR, faddrR, iaddrR, subR, srcL, apart0, appendR, rowLen, etOf, decs, fieldR, loOf, dstOk, allOne, S0.one, Value.oneCell', ET.enc, ET.sz, ET.dec, ET.dft, word_app, wordT_app, wordS_app, tbl_nil, tbl_cons, Int.toNat_natCast, Int.toNat_zero, Nat.reduceBEq, Nat.reduceBNe, Nat.blt, Nat.ble, cond_true, cond_false, true_and, and_true, forall_const, true_implies, decide_true, decide_false, Bool.and_true, Bool.and_false, Bool.true_and, Bool.false_and, Bool.or_false, Bool.or_true, Bool.true_or, Bool.false_or, reduceCtorEq, List.length_cons, List.length_nil, List.append_nil, List.nil_append, List.cons_append, List.getElem?_cons_zero, List.getElem?_cons_succ, List.getElem?_nil, tupSV, List.map_cons, List.map_nil, List.filterMap_cons, List.filterMap_nil, List.set_cons_zero, List.set_cons_succ, List.drop_zero, List.drop_succ_cons, List.take_succ_cons, List.take_zero, List.take_nil, List.drop_nil, Nat.reduceAdd, Nat.zero_add, Nat.add_zero, Nat.reduceMul, Nat.reduceLT, Nat.reduceLeDiff, bne_self_eq_false, bne_iff_ne, beq_self_eq_true, List.replicate, List.flatten_cons, List.flatten_nil, dite_true, dite_false])
    | with_reducible refine VC.mid ?_
    | (refine And.intro (by first | omega | (unfold InI64; omega) | (intros; simp_all; done) | (intros; simp_all [InI64, InI32]; omega)) ?_))
      refine VC.condT (by rfl) (fun h => ?_) (fun _ => ?_)
      · exfalso
        have := of_decide_eq_true h
        omega
      repeat' (first
    | with_reducible refine VC.seq ?_
    | with_reducible refine VC.skip ?_
    | with_reducible refine VC.block ?_
    | with_reducible refine VC.blk ?_
    | (refine VC.exit (by rfl) ?_)
    | (with_reducible refine VC.reg ?_; simp only [cond_or, cond_and, implies_true, imp_self, decide_eq_true_eq, decide_eq_false_iff_not, runOps, runP, actOf, argE, argsE, bound, getE, putD, putE, putR, pruneE, owe, ret1, fit, quot, remd, binR, unR, beqR, beq_self_eq_true, pickB, fillL, setL, SV.cells, vals, subList, cellsLoad, rowLoad, loadR, storeR, faddrR, iaddrR, subR, srcL, apart0, appendR, rowLen, etOf, decs, fieldR, loOf, dstOk, allOne, S0.one, Value.oneCell', ET.enc, ET.sz, ET.dec, ET.dft, word_app, wordT_app, wordS_app, tbl_nil, tbl_cons, Int.toNat_natCast, Int.toNat_zero, Nat.reduceBEq, Nat.reduceBNe, Nat.blt, Nat.ble, cond_true, cond_false, true_and, and_true, forall_const, true_implies, decide_true, decide_false, Bool.and_true, Bool.and_false, Bool.true_and, Bool.false_and, Bool.or_false, Bool.or_true, Bool.true_or, Bool.false_or, reduceCtorEq, List.length_cons, List.length_nil, List.append_nil, List.nil_append, List.cons_append, List.getElem?_cons_zero, List.getElem?_cons_succ, List.getElem?_nil, tupSV, List.map_cons, List.map_nil, List.filterMap_cons, List.filterMap_nil, List.set_cons_zero, List.set_cons_succ, List.drop_zero, List.drop_succ_cons, List.take_succ_cons, List.take_zero, List.take_nil, List.drop_nil, Nat.reduceAdd, Nat.zero_add, Nat.add_zero, Nat.reduceMul, Nat.reduceLT, Nat.reduceLeDiff, bne_self_eq_false, bne_iff_ne, beq_self_eq_true, List.replicate, List.flatten_cons, List.flatten_nil, dite_true, dite_false])
    | (with_reducible refine VC.regD ?_; simp only [runDraw, staticB, S0.ltB, cond_or, cond_and, implies_true, imp_self, decide_eq_true_eq, decide_eq_false_iff_not, runOps, runP, actOf, argE, argsE, bound, getE, putD, putE, putR, pruneE, owe, ret1, fit, quot, remd, binR, unR, beqR, beq_self_eq_true, pickB, fillL, setL, SV.cells, vals, subList, cellsLoad, rowLoad, loadR, storeR, faddrR, iaddrR, subR, srcL, apart0, appendR, rowLen, etOf, decs, fieldR, loOf, dstOk, allOne, S0.one, Value.oneCell', ET.enc, ET.sz, ET.dec, ET.dft, word_app, wordT_app, wordS_app, tbl_nil, tbl_cons, Int.toNat_natCast, Int.toNat_zero, Nat.reduceBEq, Nat.reduceBNe, Nat.blt, Nat.ble, cond_true, cond_false, true_and, and_true, forall_const, true_implies, decide_true, decide_false, Bool.and_true, Bool.and_false, Bool.true_and, Bool.false_and, Bool.or_false, Bool.or_true, Bool.true_or, Bool.false_or, reduceCtorEq, List.length_cons, List.length_nil, List.append_nil, List.nil_append, List.cons_append, List.getElem?_cons_zero, List.getElem?_cons_succ, List.getElem?_nil, tupSV, List.map_cons, List.map_nil, List.filterMap_cons, List.filterMap_nil, List.set_cons_zero, List.set_cons_succ, List.drop_zero, List.drop_succ_cons, List.take_succ_cons, List.take_zero, List.take_nil, List.drop_nil, Nat.reduceAdd, Nat.zero_add, Nat.add_zero, Nat.reduceMul, Nat.reduceLT, Nat.reduceLeDiff, bne_self_eq_false, bne_iff_ne, beq_self_eq_true, List.replicate, List.flatten_cons, List.flatten_nil, dite_true, dite_false])
    | (with_reducible refine VC.ret ?_; simp only [FinOK, resE, rvE, mkRes, cond_or, cond_and, implies_true, imp_self, decide_eq_true_eq, decide_eq_false_iff_not, runOps, runP, actOf, argE, argsE, bound, getE, putD, putE, putR, pruneE, owe, ret1, fit, quot, remd, binR, unR, beqR, beq_self_eq_true, pickB, fillL, setL, SV.cells, vals, subList, cellsLoad, rowLoad, loadR, storeR, faddrR, iaddrR, subR, srcL, apart0, appendR, rowLen, etOf, decs, fieldR, loOf, dstOk, allOne, S0.one, Value.oneCell', ET.enc, ET.sz, ET.dec, ET.dft, word_app, wordT_app, wordS_app, tbl_nil, tbl_cons, Int.toNat_natCast, Int.toNat_zero, Nat.reduceBEq, Nat.reduceBNe, Nat.blt, Nat.ble, cond_true, cond_false, true_and, and_true, forall_const, true_implies, decide_true, decide_false, Bool.and_true, Bool.and_false, Bool.true_and, Bool.false_and, Bool.or_false, Bool.or_true, Bool.true_or, Bool.false_or, reduceCtorEq, List.length_cons, List.length_nil, List.append_nil, List.nil_append, List.cons_append, List.getElem?_cons_zero, List.getElem?_cons_succ, List.getElem?_nil, tupSV, List.map_cons, List.map_nil, List.filterMap_cons, List.filterMap_nil, List.set_cons_zero, List.set_cons_succ, List.drop_zero, List.drop_succ_cons, List.take_succ_cons, List.take_zero, List.take_nil, List.drop_nil, Nat.reduceAdd, Nat.zero_add, Nat.add_zero, Nat.reduceMul, Nat.reduceLT, Nat.reduceLeDiff, bne_self_eq_false, bne_iff_ne, beq_self_eq_true, List.replicate, List.flatten_cons, List.flatten_nil, dite_true, dite_false])
    | with_reducible refine VC.mid ?_
    | (refine And.intro (by first | omega | (unfold InI64; omega) | (intros; simp_all; done) | (intros; simp_all [InI64, InI32]; omega)) ?_))
      refine VC.loop (fun l : List Int => ⟨[(0, True, valSV (.string s)), (2, True, .c (.o (.hd 0 0))), (3, True, valSV (.bool false)), (4, True, .c (.o (.hd 1 0)))],
        [.cells 55 (numL false nilS 0 false nilS false ⟨#[]⟩), .cells 55 (numL (decide (bAt s 0 = 45)) (.own 3) ((atB s : Int) - atA s - (k - (lead (dsFrom (allS s) 0 k)).length)) (readS s).down (.own 2) (!dotS s && !expS s) (s.extract (atA s) (atB s))), .row .i64 3 (readS s).exp, .row .i64 3 l]⟩)
        (fun l => trail l = (readS s).digits ∧ l.length ≤ (allS s).size) (fun l => l.length) (lead (dsFrom (allS s) 0 k)) [0, 1, 2, 3] [] ⟨by rw [hkk]; rfl, by omega⟩ ?_ ?_
      · simp only [numL, nilS, Weak, weakSl, weakHp, sameSB, eqSV, eqSC, eqL, eqS0, nils,  SV.ren, SC.ren, S0.ren, SV.ltB, SC.ltB, S0.ltB, nodupB, List.contains_nil, List.contains_cons, Bool.not_false, Bool.not_true, List.take_nil, List.range_zero, List.all_nil, List.all_cons, List.getD_cons_zero, List.getD_cons_succ, dite_true, valSV, cond_or, cond_and, implies_true, imp_self, decide_eq_true_eq, decide_eq_false_iff_not, runOps, runP, actOf, argE, argsE, bound, getE, putD, putE, putR, pruneE, owe, ret1, fit, quot, remd, binR, unR, beqR, beq_self_eq_true, pickB, fillL, setL, SV.cells, vals, subList, cellsLoad, rowLoad, loadR, storeR, faddrR, iaddrR, subR, srcL, apart0, appendR, rowLen, etOf, decs, fieldR, loOf, dstOk, allOne, S0.one, Value.oneCell', ET.enc, ET.sz, ET.dec, ET.dft, word_app, wordT_app, wordS_app, tbl_nil, tbl_cons, Int.toNat_natCast, Int.toNat_zero, Nat.reduceBEq, Nat.reduceBNe, Nat.blt, Nat.ble, cond_true, cond_false, true_and, and_true, forall_const, true_implies, decide_true, decide_false, Bool.and_true, Bool.and_false, Bool.true_and, Bool.false_and, Bool.or_false, Bool.or_true, Bool.true_or, Bool.false_or, reduceCtorEq, List.length_cons, List.length_nil, List.append_nil, List.nil_append, List.cons_append, List.getElem?_cons_zero, List.getElem?_cons_succ, List.getElem?_nil, tupSV, List.map_cons, List.map_nil, List.filterMap_cons, List.filterMap_nil, List.set_cons_zero, List.set_cons_succ, List.drop_zero, List.drop_succ_cons, List.take_succ_cons, List.take_zero, List.take_nil, List.drop_nil, Nat.reduceAdd, Nat.zero_add, Nat.add_zero, Nat.reduceMul, Nat.reduceLT, Nat.reduceLeDiff, bne_self_eq_false, bne_iff_ne, beq_self_eq_true, List.replicate, List.flatten_cons, List.flatten_nil, dite_true, dite_false]
      · intro l hl
        simp only [valSV, numL, nilS]
        obtain ⟨hl1, hl2⟩ := hl
        have fin : ∀ m : List Int, m = (readS s).digits → (∃ h1 h2, SV.tup [SC.agg [.val (.bool (decide (bAt s 0 = 45))), .own 3, .val (.int .i64 ((atB s : Int) - atA s - (k - (lead (dsFrom (allS s) 0 k)).length))), .val (.bool (readS s).down), .own 2, .val (.bool (!dotS s && !expS s)), .val (.string (s.extract (atA s) (atB s)))], .o (.val (.bool true))] =
            .tup [.agg (numL (readS s).minus (.own h1) (readS s).off (readS s).down (.own h2) (readS s).plain (readS s).text), .o (.val (.bool true))] ∧ h1 = 3 ∧ h2 = 2) := by
          intro m hm
          refine ⟨3, 2, ?_, rfl, rfl⟩
          rw [hkk]
          rfl
        rcases List.eq_nil_or_concat l with rfl | ⟨l', d, hld⟩
        · repeat' (first
    | with_reducible refine VC.seq ?_
    | with_reducible refine VC.skip ?_
    | with_reducible refine VC.block ?_
    | with_reducible refine VC.blk ?_
    | (refine VC.exit (by rfl) ?_)
    | (with_reducible refine VC.reg ?_; simp only [cond_or, cond_and, implies_true, imp_self, decide_eq_true_eq, decide_eq_false_iff_not, runOps, runP, actOf, argE, argsE, bound, getE, putD, putE, putR, pruneE, owe, ret1, fit, quot, remd, binR, unR, beqR, beq_self_eq_true, pickB, fillL, setL, SV.cells, vals, subList, cellsLoad, rowLoad, loadR, storeR, faddrR, iaddrR, subR, srcL, apart0, appendR, rowLen, etOf, decs, fieldR, loOf, dstOk, allOne, S0.one, Value.oneCell', ET.enc, ET.sz, ET.dec, ET.dft, word_app, wordT_app, wordS_app, tbl_nil, tbl_cons, Int.toNat_natCast, Int.toNat_zero, Nat.reduceBEq, Nat.reduceBNe, Nat.blt, Nat.ble, cond_true, cond_false, true_and, and_true, forall_const, true_implies, decide_true, decide_false, Bool.and_true, Bool.and_false, Bool.true_and, Bool.false_and, Bool.or_false, Bool.or_true, Bool.true_or, Bool.false_or, reduceCtorEq, List.length_cons, List.length_nil, List.append_nil, List.nil_append, List.cons_append, List.getElem?_cons_zero, List.getElem?_cons_succ, List.getElem?_nil, tupSV, List.map_cons, List.map_nil, List.filterMap_cons, List.filterMap_nil, List.set_cons_zero, List.set_cons_succ, List.drop_zero, List.drop_succ_cons, List.take_succ_cons, List.take_zero, List.take_nil, List.drop_nil, Nat.reduceAdd, Nat.zero_add, Nat.add_zero, Nat.reduceMul, Nat.reduceLT, Nat.reduceLeDiff, bne_self_eq_false, bne_iff_ne, beq_self_eq_true, List.replicate, List.flatten_cons, List.flatten_nil, dite_true, dite_false])
    | (with_reducible refine VC.regD ?_; simp only [runDraw, staticB, S0.ltB, cond_or, cond_and, implies_true, imp_self, decide_eq_true_eq, decide_eq_false_iff_not, runOps, runP, actOf, argE, argsE, bound, getE, putD, putE, putR, pruneE, owe, ret1, fit, quot, remd, binR, unR, beqR, beq_self_eq_true, pickB, fillL, setL, SV.cells, vals, subList, cellsLoad, rowLoad, loadR, storeR, faddrR, iaddrR, subR, srcL, apart0, appendR, rowLen, etOf, decs, fieldR, loOf, dstOk, allOne, S0.one, Value.oneCell', ET.enc, ET.sz, ET.dec, ET.dft, word_app, wordT_app, wordS_app, tbl_nil, tbl_cons, Int.toNat_natCast, Int.toNat_zero, Nat.reduceBEq, Nat.reduceBNe, Nat.blt, Nat.ble, cond_true, cond_false, true_and, and_true, forall_const, true_implies, decide_true, decide_false, Bool.and_true, Bool.and_false, Bool.true_and, Bool.false_and, Bool.or_false, Bool.or_true, Bool.true_or, Bool.false_or, reduceCtorEq, List.length_cons, List.length_nil, List.append_nil, List.nil_append, List.cons_append, List.getElem?_cons_zero, List.getElem?_cons_succ, List.getElem?_nil, tupSV, List.map_cons, List.map_nil, List.filterMap_cons, List.filterMap_nil, List.set_cons_zero, List.set_cons_succ, List.drop_zero, List.drop_succ_cons, List.take_succ_cons, List.take_zero, List.take_nil, List.drop_nil, Nat.reduceAdd, Nat.zero_add, Nat.add_zero, Nat.reduceMul, Nat.reduceLT, Nat.reduceLeDiff, bne_self_eq_false, bne_iff_ne, beq_self_eq_true, List.replicate, List.flatten_cons, List.flatten_nil, dite_true, dite_false])
    | (with_reducible refine VC.ret ?_; simp only [FinOK, resE, rvE, mkRes, cond_or, cond_and, implies_true, imp_self, decide_eq_true_eq, decide_eq_false_iff_not, runOps, runP, actOf, argE, argsE, bound, getE, putD, putE, putR, pruneE, owe, ret1, fit, quot, remd, binR, unR, beqR, beq_self_eq_true, pickB, fillL, setL, SV.cells, vals, subList, cellsLoad, rowLoad, loadR, storeR, faddrR, iaddrR, subR, srcL, apart0, appendR, rowLen, etOf, decs, fieldR, loOf, dstOk, allOne, S0.one, Value.oneCell', ET.enc, ET.sz, ET.dec, ET.dft, word_app, wordT_app, wordS_app, tbl_nil, tbl_cons, Int.toNat_natCast, Int.toNat_zero, Nat.reduceBEq, Nat.reduceBNe, Nat.blt, Nat.ble, cond_true, cond_false, true_and, and_true, forall_const, true_implies, decide_true, decide_false, Bool.and_true, Bool.and_false, Bool.true_and, Bool.false_and, Bool.or_false, Bool.or_true, Bool.true_or, Bool.false_or, reduceCtorEq, List.length_cons, List.length_nil, List.append_nil, List.nil_append, List.cons_append, List.getElem?_cons_zero, List.getElem?_cons_succ, List.getElem?_nil, tupSV, List.map_cons, List.map_nil, List.filterMap_cons, List.filterMap_nil, List.set_cons_zero, List.set_cons_succ, List.drop_zero, List.drop_succ_cons, List.take_succ_cons, List.take_zero, List.take_nil, List.drop_nil, Nat.reduceAdd, Nat.zero_add, Nat.add_zero, Nat.reduceMul, Nat.reduceLT, Nat.reduceLeDiff, bne_self_eq_false, bne_iff_ne, beq_self_eq_true, List.replicate, List.flatten_cons, List.flatten_nil, dite_true, dite_false])
    | with_reducible refine VC.mid ?_
    | (refine And.intro (by first | omega | (unfold InI64; omega) | (intros; simp_all; done) | (intros; simp_all [InI64, InI32]; omega)) ?_)
    | (refine VC.condT (by rfl) (fun h => ?_) (fun h => ?_) <;> (try (cases h; done)) <;> (try simp only [decide_eq_true_eq, decide_eq_false_iff_not, Bool.and_eq_true, Bool.or_eq_true, Bool.and_eq_false_iff, Bool.or_eq_false_iff, Bool.not_eq_true', Bool.not_eq_false', not_true_eq_false, not_false_eq_true, or_false, or_true, false_or, true_or, and_true, true_and, and_false, false_and] at h) <;> (try (simp only [*, reduceCtorEq] at h; done)) <;> (try (exfalso; omega; done))))
          unfold ReadPost
          rw [readAll_ok hro, hro]
          obtain ⟨h1, h2, e, rfl, rfl⟩ := fin [] (by rw [← hl1]; rfl)
          exact ⟨.own 3, .own 2, e, .inr ⟨3, rfl, by rw [← hl1]; rfl⟩, .inr ⟨2, rfl, rfl⟩, fun i h => by cases h; simp⟩
        · rw [List.concat_eq_append] at hld
          subst hld
          have e1 : (((l' ++ [d]).length : Int) - 1).toNat = l'.length := by simp
          have e2 : (l' ++ [d]).getD l'.length 0 = d := by simp
          have e3 : (l' ++ [d]).take l'.length = l' := by simp
          have e4 : (l' ++ [d]).length = l'.length + 1 := by simp
          repeat' (first
    | with_reducible refine VC.seq ?_
    | with_reducible refine VC.skip ?_
    | with_reducible refine VC.block ?_
    | with_reducible refine VC.blk ?_
    | (refine VC.exit (by rfl) ?_)
    | (with_reducible refine VC.reg ?_; simp only [cond_or, cond_and, implies_true, imp_self, decide_eq_true_eq, decide_eq_false_iff_not, runOps, runP, actOf, argE, argsE, bound, getE, putD, putE, putR, pruneE, owe, ret1, fit, quot, remd, binR, unR, beqR, beq_self_eq_true, pickB, fillL, setL, SV.cells, vals, subList, cellsLoad, rowLoad, loadR, storeR, faddrR, iaddrR, subR, srcL, apart0, appendR, rowLen, etOf, decs, fieldR, loOf, dstOk, allOne, S0.one, Value.oneCell', ET.enc, ET.sz, ET.dec, ET.dft, word_app, wordT_app, wordS_app, tbl_nil, tbl_cons, Int.toNat_natCast, Int.toNat_zero, Nat.reduceBEq, Nat.reduceBNe, Nat.blt, Nat.ble, cond_true, cond_false, true_and, and_true, forall_const, true_implies, decide_true, decide_false, Bool.and_true, Bool.and_false, Bool.true_and, Bool.false_and, Bool.or_false, Bool.or_true, Bool.true_or, Bool.false_or, reduceCtorEq, List.length_cons, List.length_nil, List.append_nil, List.nil_append, List.cons_append, List.getElem?_cons_zero, List.getElem?_cons_succ, List.getElem?_nil, tupSV, List.map_cons, List.map_nil, List.filterMap_cons, List.filterMap_nil, List.set_cons_zero, List.set_cons_succ, List.drop_zero, List.drop_succ_cons, List.take_succ_cons, List.take_zero, List.take_nil, List.drop_nil, Nat.reduceAdd, Nat.zero_add, Nat.add_zero, Nat.reduceMul, Nat.reduceLT, Nat.reduceLeDiff, bne_self_eq_false, bne_iff_ne, beq_self_eq_true, List.replicate, List.flatten_cons, List.flatten_nil, dite_true, dite_false])
    | (with_reducible refine VC.regD ?_; simp only [runDraw, staticB, S0.ltB, cond_or, cond_and, implies_true, imp_self, decide_eq_true_eq, decide_eq_false_iff_not, runOps, runP, actOf, argE, argsE, bound, getE, putD, putE, putR, pruneE, owe, ret1, fit, quot, remd, binR, unR, beqR, beq_self_eq_true, pickB, fillL, setL, SV.cells, vals, subList, cellsLoad, rowLoad, loadR, storeR, faddrR, iaddrR, subR, srcL, apart0, appendR, rowLen, etOf, decs, fieldR, loOf, dstOk, allOne, S0.one, Value.oneCell', ET.enc, ET.sz, ET.dec, ET.dft, word_app, wordT_app, wordS_app, tbl_nil, tbl_cons, Int.toNat_natCast, Int.toNat_zero, Nat.reduceBEq, Nat.reduceBNe, Nat.blt, Nat.ble, cond_true, cond_false, true_and, and_true, forall_const, true_implies, decide_true, decide_false, Bool.and_true, Bool.and_false, Bool.true_and, Bool.false_and, Bool.or_false, Bool.or_true, Bool.true_or, Bool.false_or, reduceCtorEq, List.length_cons, List.length_nil, List.append_nil, List.nil_append, List.cons_append, List.getElem?_cons_zero, List.getElem?_cons_succ, List.getElem?_nil, tupSV, List.map_cons, List.map_nil, List.filterMap_cons, List.filterMap_nil, List.set_cons_zero, List.set_cons_succ, List.drop_zero, List.drop_succ_cons, List.take_succ_cons, List.take_zero, List.take_nil, List.drop_nil, Nat.reduceAdd, Nat.zero_add, Nat.add_zero, Nat.reduceMul, Nat.reduceLT, Nat.reduceLeDiff, bne_self_eq_false, bne_iff_ne, beq_self_eq_true, List.replicate, List.flatten_cons, List.flatten_nil, dite_true, dite_false])
    | (with_reducible refine VC.ret ?_; simp only [FinOK, resE, rvE, mkRes, cond_or, cond_and, implies_true, imp_self, decide_eq_true_eq, decide_eq_false_iff_not, runOps, runP, actOf, argE, argsE, bound, getE, putD, putE, putR, pruneE, owe, ret1, fit, quot, remd, binR, unR, beqR, beq_self_eq_true, pickB, fillL, setL, SV.cells, vals, subList, cellsLoad, rowLoad, loadR, storeR, faddrR, iaddrR, subR, srcL, apart0, appendR, rowLen, etOf, decs, fieldR, loOf, dstOk, allOne, S0.one, Value.oneCell', ET.enc, ET.sz, ET.dec, ET.dft, word_app, wordT_app, wordS_app, tbl_nil, tbl_cons, Int.toNat_natCast, Int.toNat_zero, Nat.reduceBEq, Nat.reduceBNe, Nat.blt, Nat.ble, cond_true, cond_false, true_and, and_true, forall_const, true_implies, decide_true, decide_false, Bool.and_true, Bool.and_false, Bool.true_and, Bool.false_and, Bool.or_false, Bool.or_true, Bool.true_or, Bool.false_or, reduceCtorEq, List.length_cons, List.length_nil, List.append_nil, List.nil_append, List.cons_append, List.getElem?_cons_zero, List.getElem?_cons_succ, List.getElem?_nil, tupSV, List.map_cons, List.map_nil, List.filterMap_cons, List.filterMap_nil, List.set_cons_zero, List.set_cons_succ, List.drop_zero, List.drop_succ_cons, List.take_succ_cons, List.take_zero, List.take_nil, List.drop_nil, Nat.reduceAdd, Nat.zero_add, Nat.add_zero, Nat.reduceMul, Nat.reduceLT, Nat.reduceLeDiff, bne_self_eq_false, bne_iff_ne, beq_self_eq_true, List.replicate, List.flatten_cons, List.flatten_nil, dite_true, dite_false])
    | with_reducible refine VC.mid ?_
    | (refine And.intro (by first | omega | (unfold InI64; omega) | (intros; simp_all; done) | (intros; simp_all [InI64, InI32]; omega)) ?_))
          simp only [e1, e2]
          by_cases hd0 : d = 0
          · subst hd0
            repeat' (first
    | with_reducible refine VC.seq ?_
    | with_reducible refine VC.skip ?_
    | with_reducible refine VC.block ?_
    | with_reducible refine VC.blk ?_
    | (refine VC.exit (by rfl) ?_)
    | (with_reducible refine VC.reg ?_; simp only [cond_or, cond_and, implies_true, imp_self, decide_eq_true_eq, decide_eq_false_iff_not, runOps, runP, actOf, argE, argsE, bound, getE, putD, putE, putR, pruneE, owe, ret1, fit, quot, remd, binR, unR, beqR, beq_self_eq_true, pickB, fillL, setL, SV.cells, vals, subList, cellsLoad, rowLoad, loadR, storeR, faddrR, iaddrR, subR, srcL, apart0, appendR, rowLen, etOf, decs, fieldR, loOf, dstOk, allOne, S0.one, Value.oneCell', ET.enc, ET.sz, ET.dec, ET.dft, word_app, wordT_app, wordS_app, tbl_nil, tbl_cons, Int.toNat_natCast, Int.toNat_zero, Nat.reduceBEq, Nat.reduceBNe, Nat.blt, Nat.ble, cond_true, cond_false, true_and, and_true, forall_const, true_implies, decide_true, decide_false, Bool.and_true, Bool.and_false, Bool.true_and, Bool.false_and, Bool.or_false, Bool.or_true, Bool.true_or, Bool.false_or, reduceCtorEq, List.length_cons, List.length_nil, List.append_nil, List.nil_append, List.cons_append, List.getElem?_cons_zero, List.getElem?_cons_succ, List.getElem?_nil, tupSV, List.map_cons, List.map_nil, List.filterMap_cons, List.filterMap_nil, List.set_cons_zero, List.set_cons_succ, List.drop_zero, List.drop_succ_cons, List.take_succ_cons, List.take_zero, List.take_nil, List.drop_nil, Nat.reduceAdd, Nat.zero_add, Nat.add_zero, Nat.reduceMul, Nat.reduceLT, Nat.reduceLeDiff, bne_self_eq_false, bne_iff_ne, beq_self_eq_true, List.replicate, List.flatten_cons, List.flatten_nil, dite_true, dite_false])
    | (with_reducible refine VC.regD ?_; simp only [runDraw, staticB, S0.ltB, cond_or, cond_and, implies_true, imp_self, decide_eq_true_eq, decide_eq_false_iff_not, runOps, runP, actOf, argE, argsE, bound, getE, putD, putE, putR, pruneE, owe, ret1, fit, quot, remd, binR, unR, beqR, beq_self_eq_true, pickB, fillL, setL, SV.cells, vals, subList, cellsLoad, rowLoad, loadR, storeR, faddrR, iaddrR, subR, srcL, apart0, appendR, rowLen, etOf, decs, fieldR, loOf, dstOk, allOne, S0.one, Value.oneCell', ET.enc, ET.sz, ET.dec, ET.dft, word_app, wordT_app, wordS_app, tbl_nil, tbl_cons, Int.toNat_natCast, Int.toNat_zero, Nat.reduceBEq, Nat.reduceBNe, Nat.blt, Nat.ble, cond_true, cond_false, true_and, and_true, forall_const, true_implies, decide_true, decide_false, Bool.and_true, Bool.and_false, Bool.true_and, Bool.false_and, Bool.or_false, Bool.or_true, Bool.true_or, Bool.false_or, reduceCtorEq, List.length_cons, List.length_nil, List.append_nil, List.nil_append, List.cons_append, List.getElem?_cons_zero, List.getElem?_cons_succ, List.getElem?_nil, tupSV, List.map_cons, List.map_nil, List.filterMap_cons, List.filterMap_nil, List.set_cons_zero, List.set_cons_succ, List.drop_zero, List.drop_succ_cons, List.take_succ_cons, List.take_zero, List.take_nil, List.drop_nil, Nat.reduceAdd, Nat.zero_add, Nat.add_zero, Nat.reduceMul, Nat.reduceLT, Nat.reduceLeDiff, bne_self_eq_false, bne_iff_ne, beq_self_eq_true, List.replicate, List.flatten_cons, List.flatten_nil, dite_true, dite_false])
    | (with_reducible refine VC.ret ?_; simp only [FinOK, resE, rvE, mkRes, cond_or, cond_and, implies_true, imp_self, decide_eq_true_eq, decide_eq_false_iff_not, runOps, runP, actOf, argE, argsE, bound, getE, putD, putE, putR, pruneE, owe, ret1, fit, quot, remd, binR, unR, beqR, beq_self_eq_true, pickB, fillL, setL, SV.cells, vals, subList, cellsLoad, rowLoad, loadR, storeR, faddrR, iaddrR, subR, srcL, apart0, appendR, rowLen, etOf, decs, fieldR, loOf, dstOk, allOne, S0.one, Value.oneCell', ET.enc, ET.sz, ET.dec, ET.dft, word_app, wordT_app, wordS_app, tbl_nil, tbl_cons, Int.toNat_natCast, Int.toNat_zero, Nat.reduceBEq, Nat.reduceBNe, Nat.blt, Nat.ble, cond_true, cond_false, true_and, and_true, forall_const, true_implies, decide_true, decide_false, Bool.and_true, Bool.and_false, Bool.true_and, Bool.false_and, Bool.or_false, Bool.or_true, Bool.true_or, Bool.false_or, reduceCtorEq, List.length_cons, List.length_nil, List.append_nil, List.nil_append, List.cons_append, List.getElem?_cons_zero, List.getElem?_cons_succ, List.getElem?_nil, tupSV, List.map_cons, List.map_nil, List.filterMap_cons, List.filterMap_nil, List.set_cons_zero, List.set_cons_succ, List.drop_zero, List.drop_succ_cons, List.take_succ_cons, List.take_zero, List.take_nil, List.drop_nil, Nat.reduceAdd, Nat.zero_add, Nat.add_zero, Nat.reduceMul, Nat.reduceLT, Nat.reduceLeDiff, bne_self_eq_false, bne_iff_ne, beq_self_eq_true, List.replicate, List.flatten_cons, List.flatten_nil, dite_true, dite_false])
    | with_reducible refine VC.mid ?_
    | (refine And.intro (by first | omega | (unfold InI64; omega) | (intros; simp_all; done) | (intros; simp_all [InI64, InI32]; omega)) ?_)
    | (refine VC.condT (by rfl) (fun h => ?_) (fun h => ?_) <;> (try (cases h; done)) <;> (try simp only [decide_eq_true_eq, decide_eq_false_iff_not, Bool.and_eq_true, Bool.or_eq_true, Bool.and_eq_false_iff, Bool.or_eq_false_iff, Bool.not_eq_true', Bool.not_eq_false', not_true_eq_false, not_false_eq_true, or_false, or_true, false_or, true_or, and_true, true_and, and_false, false_and] at h) <;> (try (simp only [*, reduceCtorEq] at h; done)) <;> (try (exfalso; omega; done))))
            refine ⟨l', [0, 1, 2, 4], [], ⟨by rw [← hl1, trail_snoc_zero], by omega⟩, by omega, ?_⟩
            simp only [numL, nilS, Weak, weakSl, weakHp, sameSB, eqSV, eqSC, eqL, eqS0, nils,  SV.ren, SC.ren, S0.ren, SV.ltB, SC.ltB, S0.ltB, nodupB, List.contains_nil, List.contains_cons, Bool.not_false, Bool.not_true, List.take_nil, List.range_zero, List.all_nil, List.all_cons, List.getD_cons_zero, List.getD_cons_succ, dite_true, valSV, cond_or, cond_and, implies_true, imp_self, decide_eq_true_eq, decide_eq_false_iff_not, runOps, runP, actOf, argE, argsE, bound, getE, putD, putE, putR, pruneE, owe, ret1, fit, quot, remd, binR, unR, beqR, beq_self_eq_true, pickB, fillL, setL, SV.cells, vals, subList, cellsLoad, rowLoad, loadR, storeR, faddrR, iaddrR, subR, srcL, apart0, appendR, rowLen, etOf, decs, fieldR, loOf, dstOk, allOne, S0.one, Value.oneCell', ET.enc, ET.sz, ET.dec, ET.dft, word_app, wordT_app, wordS_app, tbl_nil, tbl_cons, Int.toNat_natCast, Int.toNat_zero, Nat.reduceBEq, Nat.reduceBNe, Nat.blt, Nat.ble, cond_true, cond_false, true_and, and_true, forall_const, true_implies, decide_true, decide_false, Bool.and_true, Bool.and_false, Bool.true_and, Bool.false_and, Bool.or_false, Bool.or_true, Bool.true_or, Bool.false_or, reduceCtorEq, List.length_cons, List.length_nil, List.append_nil, List.nil_append, List.cons_append, List.getElem?_cons_zero, List.getElem?_cons_succ, List.getElem?_nil, tupSV, List.map_cons, List.map_nil, List.filterMap_cons, List.filterMap_nil, List.set_cons_zero, List.set_cons_succ, List.drop_zero, List.drop_succ_cons, List.take_succ_cons, List.take_zero, List.take_nil, List.drop_nil, Nat.reduceAdd, Nat.zero_add, Nat.add_zero, Nat.reduceMul, Nat.reduceLT, Nat.reduceLeDiff, bne_self_eq_false, bne_iff_ne, beq_self_eq_true, List.replicate, List.flatten_cons, List.flatten_nil, dite_true, dite_false]
            simp only [e1, e3]
          · repeat' (first
    | with_reducible refine VC.seq ?_
    | with_reducible refine VC.skip ?_
    | with_reducible refine VC.block ?_
    | with_reducible refine VC.blk ?_
    | (refine VC.exit (by rfl) ?_)
    | (with_reducible refine VC.reg ?_; simp only [cond_or, cond_and, implies_true, imp_self, decide_eq_true_eq, decide_eq_false_iff_not, runOps, runP, actOf, argE, argsE, bound, getE, putD, putE, putR, pruneE, owe, ret1, fit, quot, remd, binR, unR, beqR, beq_self_eq_true, pickB, fillL, setL, SV.cells, vals, subList, cellsLoad, rowLoad, loadR, storeR, faddrR, iaddrR, subR, srcL, apart0, appendR, rowLen, etOf, decs, fieldR, loOf, dstOk, allOne, S0.one, Value.oneCell', ET.enc, ET.sz, ET.dec, ET.dft, word_app, wordT_app, wordS_app, tbl_nil, tbl_cons, Int.toNat_natCast, Int.toNat_zero, Nat.reduceBEq, Nat.reduceBNe, Nat.blt, Nat.ble, cond_true, cond_false, true_and, and_true, forall_const, true_implies, decide_true, decide_false, Bool.and_true, Bool.and_false, Bool.true_and, Bool.false_and, Bool.or_false, Bool.or_true, Bool.true_or, Bool.false_or, reduceCtorEq, List.length_cons, List.length_nil, List.append_nil, List.nil_append, List.cons_append, List.getElem?_cons_zero, List.getElem?_cons_succ, List.getElem?_nil, tupSV, List.map_cons, List.map_nil, List.filterMap_cons, List.filterMap_nil, List.set_cons_zero, List.set_cons_succ, List.drop_zero, List.drop_succ_cons, List.take_succ_cons, List.take_zero, List.take_nil, List.drop_nil, Nat.reduceAdd, Nat.zero_add, Nat.add_zero, Nat.reduceMul, Nat.reduceLT, Nat.reduceLeDiff, bne_self_eq_false, bne_iff_ne, beq_self_eq_true, List.replicate, List.flatten_cons, List.flatten_nil, dite_true, dite_false])
    | (with_reducible refine VC.regD ?_; simp only [runDraw, staticB, S0.ltB, cond_or, cond_and, implies_true, imp_self, decide_eq_true_eq, decide_eq_false_iff_not, runOps, runP, actOf, argE, argsE, bound, getE, putD, putE, putR, pruneE, owe, ret1, fit, quot, remd, binR, unR, beqR, beq_self_eq_true, pickB, fillL, setL, SV.cells, vals, subList, cellsLoad, rowLoad, loadR, storeR, faddrR, iaddrR, subR, srcL, apart0, appendR, rowLen, etOf, decs, fieldR, loOf, dstOk, allOne, S0.one, Value.oneCell', ET.enc, ET.sz, ET.dec, ET.dft, word_app, wordT_app, wordS_app, tbl_nil, tbl_cons, Int.toNat_natCast, Int.toNat_zero, Nat.reduceBEq, Nat.reduceBNe, Nat.blt, Nat.ble, cond_true, cond_false, true_and, and_true, forall_const, true_implies, decide_true, decide_false, Bool.and_true, Bool.and_false, Bool.true_and, Bool.false_and, Bool.or_false, Bool.or_true, Bool.true_or, Bool.false_or, reduceCtorEq, List.length_cons, List.length_nil, List.append_nil, List.nil_append, List.cons_append, List.getElem?_cons_zero, List.getElem?_cons_succ, List.getElem?_nil, tupSV, List.map_cons, List.map_nil, List.filterMap_cons, List.filterMap_nil, List.set_cons_zero, List.set_cons_succ, List.drop_zero, List.drop_succ_cons, List.take_succ_cons, List.take_zero, List.take_nil, List.drop_nil, Nat.reduceAdd, Nat.zero_add, Nat.add_zero, Nat.reduceMul, Nat.reduceLT, Nat.reduceLeDiff, bne_self_eq_false, bne_iff_ne, beq_self_eq_true, List.replicate, List.flatten_cons, List.flatten_nil, dite_true, dite_false])
    | (with_reducible refine VC.ret ?_; simp only [FinOK, resE, rvE, mkRes, cond_or, cond_and, implies_true, imp_self, decide_eq_true_eq, decide_eq_false_iff_not, runOps, runP, actOf, argE, argsE, bound, getE, putD, putE, putR, pruneE, owe, ret1, fit, quot, remd, binR, unR, beqR, beq_self_eq_true, pickB, fillL, setL, SV.cells, vals, subList, cellsLoad, rowLoad, loadR, storeR, faddrR, iaddrR, subR, srcL, apart0, appendR, rowLen, etOf, decs, fieldR, loOf, dstOk, allOne, S0.one, Value.oneCell', ET.enc, ET.sz, ET.dec, ET.dft, word_app, wordT_app, wordS_app, tbl_nil, tbl_cons, Int.toNat_natCast, Int.toNat_zero, Nat.reduceBEq, Nat.reduceBNe, Nat.blt, Nat.ble, cond_true, cond_false, true_and, and_true, forall_const, true_implies, decide_true, decide_false, Bool.and_true, Bool.and_false, Bool.true_and, Bool.false_and, Bool.or_false, Bool.or_true, Bool.true_or, Bool.false_or, reduceCtorEq, List.length_cons, List.length_nil, List.append_nil, List.nil_append, List.cons_append, List.getElem?_cons_zero, List.getElem?_cons_succ, List.getElem?_nil, tupSV, List.map_cons, List.map_nil, List.filterMap_cons, List.filterMap_nil, List.set_cons_zero, List.set_cons_succ, List.drop_zero, List.drop_succ_cons, List.take_succ_cons, List.take_zero, List.take_nil, List.drop_nil, Nat.reduceAdd, Nat.zero_add, Nat.add_zero, Nat.reduceMul, Nat.reduceLT, Nat.reduceLeDiff, bne_self_eq_false, bne_iff_ne, beq_self_eq_true, List.replicate, List.flatten_cons, List.flatten_nil, dite_true, dite_false])
    | with_reducible refine VC.mid ?_
    | (refine And.intro (by first | omega | (unfold InI64; omega) | (intros; simp_all; done) | (intros; simp_all [InI64, InI32]; omega)) ?_)
    | (refine VC.condT (by rfl) (fun h => ?_) (fun h => ?_) <;> (try (cases h; done)) <;> (try simp only [decide_eq_true_eq, decide_eq_false_iff_not, Bool.and_eq_true, Bool.or_eq_true, Bool.and_eq_false_iff, Bool.or_eq_false_iff, Bool.not_eq_true', Bool.not_eq_false', not_true_eq_false, not_false_eq_true, or_false, or_true, false_or, true_or, and_true, true_and, and_false, false_and] at h) <;> (try (simp only [*, reduceCtorEq] at h; done)) <;> (try (exfalso; omega; done))))
            unfold ReadPost
            rw [readAll_ok hro, hro]
            have hm : l' ++ [d] = (readS s).digits := by rw [← hl1, trail_snoc _ _ hd0]
            obtain ⟨h1, h2, e, rfl, rfl⟩ := fin _ hm
            exact ⟨.own 3, .own 2, e, .inr ⟨3, rfl, by rw [← hm]; rfl⟩, .inr ⟨2, rfl, rfl⟩, fun i h => by cases h; simp⟩

/-- Read's word: the two lists are new rows. -/
def Read_C : Con := fun args hp => match args with
  | [.c (.o (.val (.string s)))] => some (s.size ≤ 1000000000,
      .tup [.agg [.val (.bool (readAll s).minus), .own hp.length, .val (.int .i64 (readAll s).off), .val (.bool (readAll s).down), .own (hp.length + 1), .val (.bool (readAll s).plain), .val (.string (readAll s).text)], .o (.val (.bool (readOk s)))],
      some (hp ++ [.row .i64 3 (readAll s).digits, .row .i64 3 (readAll s).exp]))
  | _ => none
theorem Read_C_app (s : ByteArray) (hp : List SB) : Read_C [.c (.o (.val (.string s)))] hp = some (s.size ≤ 1000000000,
      .tup [.agg [.val (.bool (readAll s).minus), .own hp.length, .val (.int .i64 (readAll s).off), .val (.bool (readAll s).down), .own (hp.length + 1), .val (.bool (readAll s).plain), .val (.string (readAll s).text)], .o (.val (.bool (readOk s)))],
      some (hp ++ [.row .i64 3 (readAll s).digits, .row .i64 3 (readAll s).exp])) := rfl
theorem slice_back {hp : List SB} {d : S0} {l : List Int} (h : SliceP hp d l) : Back hp (d, .row .i64 3 l) := by
  rcases h with ⟨rfl, rfl⟩ | ⟨i, rfl, h⟩
  · exact .inl ⟨rfl, _, _, rfl⟩
  · exact .inr ⟨i, _, _, _, rfl, rfl, h⟩
theorem Read_ok : Valid Tryd.prog 37 Read_C := by
  intro args hp p r q hC hpp hlt
  unfold Read_C at hC
  split at hC
  · rename_i s
    simp only [Option.some.injEq, Prod.mk.injEq] at hC
    obtain ⟨rfl, rfl, rfl⟩ := hC
    refine ⟨?_, by simp, fun X w0 w ρ hhp hf => ?_⟩
    · intro v hv
      simp only [List.mem_cons, List.not_mem_nil, or_false] at hv
      rcases hv with rfl | rfl
      · intro y hy
        simp only [List.mem_cons, List.not_mem_nil, or_false] at hy
        rcases hy with rfl | rfl | rfl | rfl | rfl | rfl | rfl <;> first | trivial | (simp [S0.lt])
      · trivial
    have hG := tbl_valid (P := Tryd.prog) (l := [(53, word many_w)]) ⟨many_ok, trivial⟩
    refine (walk Read_chk 13 _ hG [valSV (.string s)] [] (Nat.le_of_ble_eq_true rfl) noX w (fun _ => undef) (HpSat.nil _ _ _) (fun v hv => by
      simp only [List.mem_cons, List.not_mem_nil, or_false] at hv
      subst hv
      trivial) (ReadPost s) (Read_walk s hpp w hG)).mono ?_
    rintro _ w' ⟨ρ', r', hp', _, _, rfl, _, ⟨d, e, rfl, hd, he, hne⟩, h', hf'⟩
    obtain ⟨ρ'', a1, a2, a3, a4⟩ := import_rows hhp hf h' hf' [(d, .row .i64 3 (readAll s).digits), (e, .row .i64 3 (readAll s).exp)]
      (fun p hp => by
        simp only [List.mem_cons, List.not_mem_nil, or_false] at hp
        rcases hp with rfl | rfl
        · exact slice_back hd
        · exact slice_back he)
      (by
        simp only [List.pairwise_cons, List.mem_cons, List.not_mem_nil, or_false, forall_eq, false_implies, implies_true, List.Pairwise.nil, and_true]
        intro i hi hj
        cases d <;> simp [handleOf] at hi
        subst hi
        cases e <;> simp [handleOf] at hj
        subst hj
        exact hne _ rfl rfl)
    refine ⟨ρ'', a1, ?_, a3, a4⟩
    have b1 := a2 0 _ rfl
    have b2 := a2 1 _ rfl
    simp only [Nat.add_zero] at b1
    simp only [SV.den, SC.den, S0.den, numL, List.map_cons, List.map_nil, b1, b2]
  · cases hC
end Go.Proofs.YtdibapfehdhfjaaDoor
