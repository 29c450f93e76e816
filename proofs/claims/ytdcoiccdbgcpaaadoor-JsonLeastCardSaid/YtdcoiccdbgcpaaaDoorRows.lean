/-
  NARROWER THAN 'FOR EVERY INPUT', by the rows' own cells (each row's printed sentence says how): KeysetBinds: laid · IdHalves: laid · JsonFinds: laid · IdChecks: laid · JsonWrites: laid · JsonReads: laid · JsonBack: laid · JsonLeast: laid · JsonSpelled: laid · JsonParts: laid · JsonFresh: laid.
  DERIVED. THE GIVEN ROWS OF THIS SEAT. 11 by the template 'for every input the law returns true; each argument reads behind the call as it read before'; 0 by the template 'total and deterministic' (their statements: YtdcoiccdbgcpaaaDoorTotals.lean).
  GIVEN WITH THE SEED: the statements are not yours to turn. If you find one false, say at which input.
  Laid BY PROGRAM, IN A SANDBOX (cutbox-rows.mjs): the forced cells as the released guide's own fill.sh prints them over the translation 19dbf938d79f1be6… (all of the seat's roots in one cut). By AI agents, Wed Nov 11 2026. No macro, syntax, notation, axiom, sorry.
-/
import Derived.Test.YtdcoiccdbgcpaaaDoorChecked
import GoSem.PinnedTables
import GoSem.Claim
import GoSem.ClaimJoined
import GoSem.ClaimMapViews
import Derived.JoinedTies
import Derived.KernelRfl
namespace Go.Proofs.YtdcoiccdbgcpaaaDoor
/- THE CELL 'sum', in the pinned program and in every row, IS THE sha256 OF THE DUMP (.gsa) THAT YtdcoiccdbgcpaaaDoorProg.lean LOADS. Nothing in Lean hashes anything: it is a label: what it is worth is what the hold of that sum in a sandbox is worth. -/
noncomputable def Tryd.pinned : Pinned := { name := "ytdcoiccdbgcpaaadoor", sum := "19dbf938d79f1be6c526c6edb4a64339b87240efac1d37e306533540683952a8", checked := Tryd.checked }
namespace Rows
def none {H : Type} : Left H := { results := [], args := [] }

/- WHAT THE LISTED PACKAGE-LEVEL VARIABLES READ AS WHEN THE CALL BEGINS. Each datum BY PROGRAM (the guide's laid-datum.mjs) off the statement by which the dump's own 'gosem.cut.vars' lays the variable. In a bare row this is a premise. The card (YtdcoiccdbgcpaaaDoorCards.lean) ties it to the program's text. -/
def laid_signet_keyset_names {H : Type} : DataW H := .agg [.lit (.string []), .lit (.string [72, 83, 50, 53, 54]), .lit (.string [72, 83, 51, 56, 52]), .lit (.string [72, 83, 53, 49, 50]), .lit (.string [82, 83, 50, 53, 54]), .lit (.string [82, 83, 51, 56, 52]), .lit (.string [82, 83, 53, 49, 50]), .lit (.string [80, 83, 50, 53, 54]), .lit (.string [80, 83, 51, 56, 52]), .lit (.string [80, 83, 53, 49, 50]), .lit (.string [69, 83, 50, 53, 54]), .lit (.string [69, 83, 51, 56, 52]), .lit (.string [69, 100, 68, 83, 65])]
def laid_signet_sha_k256 {H : Type} : DataW H := .agg [.lit (.int .u32 1116352408), .lit (.int .u32 1899447441), .lit (.int .u32 3049323471), .lit (.int .u32 3921009573), .lit (.int .u32 961987163), .lit (.int .u32 1508970993), .lit (.int .u32 2453635748), .lit (.int .u32 2870763221), .lit (.int .u32 3624381080), .lit (.int .u32 310598401), .lit (.int .u32 607225278), .lit (.int .u32 1426881987), .lit (.int .u32 1925078388), .lit (.int .u32 2162078206), .lit (.int .u32 2614888103), .lit (.int .u32 3248222580), .lit (.int .u32 3835390401), .lit (.int .u32 4022224774), .lit (.int .u32 264347078), .lit (.int .u32 604807628), .lit (.int .u32 770255983), .lit (.int .u32 1249150122), .lit (.int .u32 1555081692), .lit (.int .u32 1996064986), .lit (.int .u32 2554220882), .lit (.int .u32 2821834349), .lit (.int .u32 2952996808), .lit (.int .u32 3210313671), .lit (.int .u32 3336571891), .lit (.int .u32 3584528711), .lit (.int .u32 113926993), .lit (.int .u32 338241895), .lit (.int .u32 666307205), .lit (.int .u32 773529912), .lit (.int .u32 1294757372), .lit (.int .u32 1396182291), .lit (.int .u32 1695183700), .lit (.int .u32 1986661051), .lit (.int .u32 2177026350), .lit (.int .u32 2456956037), .lit (.int .u32 2730485921), .lit (.int .u32 2820302411), .lit (.int .u32 3259730800), .lit (.int .u32 3345764771), .lit (.int .u32 3516065817), .lit (.int .u32 3600352804), .lit (.int .u32 4094571909), .lit (.int .u32 275423344), .lit (.int .u32 430227734), .lit (.int .u32 506948616), .lit (.int .u32 659060556), .lit (.int .u32 883997877), .lit (.int .u32 958139571), .lit (.int .u32 1322822218), .lit (.int .u32 1537002063), .lit (.int .u32 1747873779), .lit (.int .u32 1955562222), .lit (.int .u32 2024104815), .lit (.int .u32 2227730452), .lit (.int .u32 2361852424), .lit (.int .u32 2428436474), .lit (.int .u32 2756734187), .lit (.int .u32 3204031479), .lit (.int .u32 3329325298)]
def laid_signet_sha_k512 {H : Type} : DataW H := .agg [.lit (.int .u64 4794697086780616226), .lit (.int .u64 8158064640168781261), .lit (.int .u64 13096744586834688815), .lit (.int .u64 16840607885511220156), .lit (.int .u64 4131703408338449720), .lit (.int .u64 6480981068601479193), .lit (.int .u64 10538285296894168987), .lit (.int .u64 12329834152419229976), .lit (.int .u64 15566598209576043074), .lit (.int .u64 1334009975649890238), .lit (.int .u64 2608012711638119052), .lit (.int .u64 6128411473006802146), .lit (.int .u64 8268148722764581231), .lit (.int .u64 9286055187155687089), .lit (.int .u64 11230858885718282805), .lit (.int .u64 13951009754708518548), .lit (.int .u64 16472876342353939154), .lit (.int .u64 17275323862435702243), .lit (.int .u64 1135362057144423861), .lit (.int .u64 2597628984639134821), .lit (.int .u64 3308224258029322869), .lit (.int .u64 5365058923640841347), .lit (.int .u64 6679025012923562964), .lit (.int .u64 8573033837759648693), .lit (.int .u64 10970295158949994411), .lit (.int .u64 12119686244451234320), .lit (.int .u64 12683024718118986047), .lit (.int .u64 13788192230050041572), .lit (.int .u64 14330467153632333762), .lit (.int .u64 15395433587784984357), .lit (.int .u64 489312712824947311), .lit (.int .u64 1452737877330783856), .lit (.int .u64 2861767655752347644), .lit (.int .u64 3322285676063803686), .lit (.int .u64 5560940570517711597), .lit (.int .u64 5996557281743188959), .lit (.int .u64 7280758554555802590), .lit (.int .u64 8532644243296465576), .lit (.int .u64 9350256976987008742), .lit (.int .u64 10552545826968843579), .lit (.int .u64 11727347734174303076), .lit (.int .u64 12113106623233404929), .lit (.int .u64 14000437183269869457), .lit (.int .u64 14369950271660146224), .lit (.int .u64 15101387698204529176), .lit (.int .u64 15463397548674623760), .lit (.int .u64 17586052441742319658), .lit (.int .u64 1182934255886127544), .lit (.int .u64 1847814050463011016), .lit (.int .u64 2177327727835720531), .lit (.int .u64 2830643537854262169), .lit (.int .u64 3796741975233480872), .lit (.int .u64 4115178125766777443), .lit (.int .u64 5681478168544905931), .lit (.int .u64 6601373596472566643), .lit (.int .u64 7507060721942968483), .lit (.int .u64 8399075790359081724), .lit (.int .u64 8693463985226723168), .lit (.int .u64 9568029438360202098), .lit (.int .u64 10144078919501101548), .lit (.int .u64 10430055236837252648), .lit (.int .u64 11840083180663258601), .lit (.int .u64 13761210420658862357), .lit (.int .u64 14299343276471374635), .lit (.int .u64 14566680578165727644), .lit (.int .u64 15097957966210449927), .lit (.int .u64 16922976911328602910), .lit (.int .u64 17689382322260857208), .lit (.int .u64 500013540394364858), .lit (.int .u64 748580250866718886), .lit (.int .u64 1242879168328830382), .lit (.int .u64 1977374033974150939), .lit (.int .u64 2944078676154940804), .lit (.int .u64 3659926193048069267), .lit (.int .u64 4368137639120453308), .lit (.int .u64 4836135668995329356), .lit (.int .u64 5532061633213252278), .lit (.int .u64 6448918945643986474), .lit (.int .u64 6902733635092675308), .lit (.int .u64 7801388544844847127)]
def laid_signet_sha_start256 {H : Type} : DataW H := .agg [.lit (.int .u32 1779033703), .lit (.int .u32 3144134277), .lit (.int .u32 1013904242), .lit (.int .u32 2773480762), .lit (.int .u32 1359893119), .lit (.int .u32 2600822924), .lit (.int .u32 528734635), .lit (.int .u32 1541459225)]
def laid_signet_sha_start384 {H : Type} : DataW H := .agg [.lit (.int .u64 14680500436340154072), .lit (.int .u64 7105036623409894663), .lit (.int .u64 10473403895298186519), .lit (.int .u64 1526699215303891257), .lit (.int .u64 7436329637833083697), .lit (.int .u64 10282925794625328401), .lit (.int .u64 15784041429090275239), .lit (.int .u64 5167115440072839076)]
def laid_signet_sha_start512 {H : Type} : DataW H := .agg [.lit (.int .u64 7640891576956012808), .lit (.int .u64 13503953896175478587), .lit (.int .u64 4354685564936845355), .lit (.int .u64 11912009170470909681), .lit (.int .u64 5840696475078001361), .lit (.int .u64 11170449401992604703), .lit (.int .u64 2270897969802886507), .lit (.int .u64 6620516959819538809)]
def laid_signet_signetref4_k256 {H : Type} : DataW H := .agg [.lit (.int .u32 1116352408), .lit (.int .u32 1899447441), .lit (.int .u32 3049323471), .lit (.int .u32 3921009573), .lit (.int .u32 961987163), .lit (.int .u32 1508970993), .lit (.int .u32 2453635748), .lit (.int .u32 2870763221), .lit (.int .u32 3624381080), .lit (.int .u32 310598401), .lit (.int .u32 607225278), .lit (.int .u32 1426881987), .lit (.int .u32 1925078388), .lit (.int .u32 2162078206), .lit (.int .u32 2614888103), .lit (.int .u32 3248222580), .lit (.int .u32 3835390401), .lit (.int .u32 4022224774), .lit (.int .u32 264347078), .lit (.int .u32 604807628), .lit (.int .u32 770255983), .lit (.int .u32 1249150122), .lit (.int .u32 1555081692), .lit (.int .u32 1996064986), .lit (.int .u32 2554220882), .lit (.int .u32 2821834349), .lit (.int .u32 2952996808), .lit (.int .u32 3210313671), .lit (.int .u32 3336571891), .lit (.int .u32 3584528711), .lit (.int .u32 113926993), .lit (.int .u32 338241895), .lit (.int .u32 666307205), .lit (.int .u32 773529912), .lit (.int .u32 1294757372), .lit (.int .u32 1396182291), .lit (.int .u32 1695183700), .lit (.int .u32 1986661051), .lit (.int .u32 2177026350), .lit (.int .u32 2456956037), .lit (.int .u32 2730485921), .lit (.int .u32 2820302411), .lit (.int .u32 3259730800), .lit (.int .u32 3345764771), .lit (.int .u32 3516065817), .lit (.int .u32 3600352804), .lit (.int .u32 4094571909), .lit (.int .u32 275423344), .lit (.int .u32 430227734), .lit (.int .u32 506948616), .lit (.int .u32 659060556), .lit (.int .u32 883997877), .lit (.int .u32 958139571), .lit (.int .u32 1322822218), .lit (.int .u32 1537002063), .lit (.int .u32 1747873779), .lit (.int .u32 1955562222), .lit (.int .u32 2024104815), .lit (.int .u32 2227730452), .lit (.int .u32 2361852424), .lit (.int .u32 2428436474), .lit (.int .u32 2756734187), .lit (.int .u32 3204031479), .lit (.int .u32 3329325298)]
def laid_signet_signetref4_k512 {H : Type} : DataW H := .agg [.lit (.int .u64 4794697086780616226), .lit (.int .u64 8158064640168781261), .lit (.int .u64 13096744586834688815), .lit (.int .u64 16840607885511220156), .lit (.int .u64 4131703408338449720), .lit (.int .u64 6480981068601479193), .lit (.int .u64 10538285296894168987), .lit (.int .u64 12329834152419229976), .lit (.int .u64 15566598209576043074), .lit (.int .u64 1334009975649890238), .lit (.int .u64 2608012711638119052), .lit (.int .u64 6128411473006802146), .lit (.int .u64 8268148722764581231), .lit (.int .u64 9286055187155687089), .lit (.int .u64 11230858885718282805), .lit (.int .u64 13951009754708518548), .lit (.int .u64 16472876342353939154), .lit (.int .u64 17275323862435702243), .lit (.int .u64 1135362057144423861), .lit (.int .u64 2597628984639134821), .lit (.int .u64 3308224258029322869), .lit (.int .u64 5365058923640841347), .lit (.int .u64 6679025012923562964), .lit (.int .u64 8573033837759648693), .lit (.int .u64 10970295158949994411), .lit (.int .u64 12119686244451234320), .lit (.int .u64 12683024718118986047), .lit (.int .u64 13788192230050041572), .lit (.int .u64 14330467153632333762), .lit (.int .u64 15395433587784984357), .lit (.int .u64 489312712824947311), .lit (.int .u64 1452737877330783856), .lit (.int .u64 2861767655752347644), .lit (.int .u64 3322285676063803686), .lit (.int .u64 5560940570517711597), .lit (.int .u64 5996557281743188959), .lit (.int .u64 7280758554555802590), .lit (.int .u64 8532644243296465576), .lit (.int .u64 9350256976987008742), .lit (.int .u64 10552545826968843579), .lit (.int .u64 11727347734174303076), .lit (.int .u64 12113106623233404929), .lit (.int .u64 14000437183269869457), .lit (.int .u64 14369950271660146224), .lit (.int .u64 15101387698204529176), .lit (.int .u64 15463397548674623760), .lit (.int .u64 17586052441742319658), .lit (.int .u64 1182934255886127544), .lit (.int .u64 1847814050463011016), .lit (.int .u64 2177327727835720531), .lit (.int .u64 2830643537854262169), .lit (.int .u64 3796741975233480872), .lit (.int .u64 4115178125766777443), .lit (.int .u64 5681478168544905931), .lit (.int .u64 6601373596472566643), .lit (.int .u64 7507060721942968483), .lit (.int .u64 8399075790359081724), .lit (.int .u64 8693463985226723168), .lit (.int .u64 9568029438360202098), .lit (.int .u64 10144078919501101548), .lit (.int .u64 10430055236837252648), .lit (.int .u64 11840083180663258601), .lit (.int .u64 13761210420658862357), .lit (.int .u64 14299343276471374635), .lit (.int .u64 14566680578165727644), .lit (.int .u64 15097957966210449927), .lit (.int .u64 16922976911328602910), .lit (.int .u64 17689382322260857208), .lit (.int .u64 500013540394364858), .lit (.int .u64 748580250866718886), .lit (.int .u64 1242879168328830382), .lit (.int .u64 1977374033974150939), .lit (.int .u64 2944078676154940804), .lit (.int .u64 3659926193048069267), .lit (.int .u64 4368137639120453308), .lit (.int .u64 4836135668995329356), .lit (.int .u64 5532061633213252278), .lit (.int .u64 6448918945643986474), .lit (.int .u64 6902733635092675308), .lit (.int .u64 7801388544844847127)]
def laid_signet_signetref4_start256 {H : Type} : DataW H := .agg [.lit (.int .u32 1779033703), .lit (.int .u32 3144134277), .lit (.int .u32 1013904242), .lit (.int .u32 2773480762), .lit (.int .u32 1359893119), .lit (.int .u32 2600822924), .lit (.int .u32 528734635), .lit (.int .u32 1541459225)]
def laid_signet_signetref4_start384 {H : Type} : DataW H := .agg [.lit (.int .u64 14680500436340154072), .lit (.int .u64 7105036623409894663), .lit (.int .u64 10473403895298186519), .lit (.int .u64 1526699215303891257), .lit (.int .u64 7436329637833083697), .lit (.int .u64 10282925794625328401), .lit (.int .u64 15784041429090275239), .lit (.int .u64 5167115440072839076)]
def laid_signet_signetref4_start512 {H : Type} : DataW H := .agg [.lit (.int .u64 7640891576956012808), .lit (.int .u64 13503953896175478587), .lit (.int .u64 4354685564936845355), .lit (.int .u64 11912009170470909681), .lit (.int .u64 5840696475078001361), .lit (.int .u64 11170449401992604703), .lit (.int .u64 2270897969802886507), .lit (.int .u64 6620516959819538809)]
def laid_math_bits_deBruijn32tab {H : Type} : DataW H := .agg [.lit (.int .u8 0), .lit (.int .u8 1), .lit (.int .u8 28), .lit (.int .u8 2), .lit (.int .u8 29), .lit (.int .u8 14), .lit (.int .u8 24), .lit (.int .u8 3), .lit (.int .u8 30), .lit (.int .u8 22), .lit (.int .u8 20), .lit (.int .u8 15), .lit (.int .u8 25), .lit (.int .u8 17), .lit (.int .u8 4), .lit (.int .u8 8), .lit (.int .u8 31), .lit (.int .u8 27), .lit (.int .u8 13), .lit (.int .u8 23), .lit (.int .u8 21), .lit (.int .u8 19), .lit (.int .u8 16), .lit (.int .u8 7), .lit (.int .u8 26), .lit (.int .u8 12), .lit (.int .u8 18), .lit (.int .u8 6), .lit (.int .u8 11), .lit (.int .u8 5), .lit (.int .u8 10), .lit (.int .u8 9)]
def laid_math_bits_deBruijn64tab {H : Type} : DataW H := .agg [.lit (.int .u8 0), .lit (.int .u8 1), .lit (.int .u8 56), .lit (.int .u8 2), .lit (.int .u8 57), .lit (.int .u8 49), .lit (.int .u8 28), .lit (.int .u8 3), .lit (.int .u8 61), .lit (.int .u8 58), .lit (.int .u8 42), .lit (.int .u8 50), .lit (.int .u8 38), .lit (.int .u8 29), .lit (.int .u8 17), .lit (.int .u8 4), .lit (.int .u8 62), .lit (.int .u8 47), .lit (.int .u8 59), .lit (.int .u8 36), .lit (.int .u8 45), .lit (.int .u8 43), .lit (.int .u8 51), .lit (.int .u8 22), .lit (.int .u8 53), .lit (.int .u8 39), .lit (.int .u8 33), .lit (.int .u8 30), .lit (.int .u8 24), .lit (.int .u8 18), .lit (.int .u8 12), .lit (.int .u8 5), .lit (.int .u8 63), .lit (.int .u8 55), .lit (.int .u8 48), .lit (.int .u8 27), .lit (.int .u8 60), .lit (.int .u8 41), .lit (.int .u8 37), .lit (.int .u8 16), .lit (.int .u8 46), .lit (.int .u8 35), .lit (.int .u8 44), .lit (.int .u8 21), .lit (.int .u8 52), .lit (.int .u8 32), .lit (.int .u8 23), .lit (.int .u8 11), .lit (.int .u8 54), .lit (.int .u8 26), .lit (.int .u8 40), .lit (.int .u8 15), .lit (.int .u8 34), .lit (.int .u8 20), .lit (.int .u8 31), .lit (.int .u8 10), .lit (.int .u8 25), .lit (.int .u8 14), .lit (.int .u8 19), .lit (.int .u8 9), .lit (.int .u8 13), .lit (.int .u8 8), .lit (.int .u8 7), .lit (.int .u8 6)]
def laid_internal_strconv_uint64pow10 {H : Type} : DataW H := .agg [.lit (.int .u64 1), .lit (.int .u64 10), .lit (.int .u64 100), .lit (.int .u64 1000), .lit (.int .u64 10000), .lit (.int .u64 100000), .lit (.int .u64 1000000), .lit (.int .u64 10000000), .lit (.int .u64 100000000), .lit (.int .u64 1000000000), .lit (.int .u64 10000000000), .lit (.int .u64 100000000000), .lit (.int .u64 1000000000000), .lit (.int .u64 10000000000000), .lit (.int .u64 100000000000000), .lit (.int .u64 1000000000000000), .lit (.int .u64 10000000000000000), .lit (.int .u64 100000000000000000), .lit (.int .u64 1000000000000000000), .lit (.int .u64 10000000000000000000)]
def laid_unicode_utf8_acceptRanges {H : Type} : DataW H := .agg [.agg [.lit (.int .u8 128), .lit (.int .u8 191)], .agg [.lit (.int .u8 160), .lit (.int .u8 191)], .agg [.lit (.int .u8 128), .lit (.int .u8 159)], .agg [.lit (.int .u8 144), .lit (.int .u8 191)], .agg [.lit (.int .u8 128), .lit (.int .u8 143)], .agg [.lit (.int .u8 0), .lit (.int .u8 0)], .agg [.lit (.int .u8 0), .lit (.int .u8 0)], .agg [.lit (.int .u8 0), .lit (.int .u8 0)], .agg [.lit (.int .u8 0), .lit (.int .u8 0)], .agg [.lit (.int .u8 0), .lit (.int .u8 0)], .agg [.lit (.int .u8 0), .lit (.int .u8 0)], .agg [.lit (.int .u8 0), .lit (.int .u8 0)], .agg [.lit (.int .u8 0), .lit (.int .u8 0)], .agg [.lit (.int .u8 0), .lit (.int .u8 0)], .agg [.lit (.int .u8 0), .lit (.int .u8 0)], .agg [.lit (.int .u8 0), .lit (.int .u8 0)]]
/-- One of Go's own tables, pinned by name: the form's constant. -/
def laid_unicode_utf8_first : DataW Unit := Go.Pinned.utf8First

/-- 'signetlaw16.KeysetBinds': WHATEVER THE INPUT: true; the input reads as it did. -/
def keysetBindsSpec : ChangeSpec := { name := "keysetBinds", fn := fun _ => fun
  | [d1, d2] => { results := [.lit (.bool true)], args := [d1, d2] }
  | _ => none }
def keysetBindsRow : OpenClaim := { program := "ytdcoiccdbgcpaaadoor", sum := "19dbf938d79f1be6c526c6edb4a64339b87240efac1d37e306533540683952a8", func := "signet/signetlaw16.KeysetBinds", spec := "keysetBinds", recurses := true, named := ["signet/keyset.names"], apart := false, laid := [("signet/keyset.names", laid_signet_keyset_names)] }
def KeysetBindsSaid : Prop := keysetBindsRow.holds Tryd.pinned (OpenSpec.ofChange keysetBindsSpec)

/-- ITS FALSE NEIGHBOUR: 'it returns false'. Refute it at one input. -/
def keysetBindsWrong : ChangeSpec := { name := "keysetBinds", fn := fun _ => fun
  | [d1, d2] => { results := [.lit (.bool false)], args := [d1, d2] }
  | _ => none }
def KeysetBindsWrongFalsely : Prop := keysetBindsRow.holds Tryd.pinned (OpenSpec.ofChange keysetBindsWrong)

/-- 'signetlaw22.IdHalves': WHATEVER THE INPUT: true; the input reads as it did. -/
def idHalvesSpec : ChangeSpec := { name := "idHalves", fn := fun _ => fun
  | [d1, d2] => { results := [.lit (.bool true)], args := [d1, d2] }
  | _ => none }
def idHalvesRow : OpenClaim := { program := "ytdcoiccdbgcpaaadoor", sum := "19dbf938d79f1be6c526c6edb4a64339b87240efac1d37e306533540683952a8", func := "signet/signetlaw22.IdHalves", spec := "idHalves", named := ["signet/sha.start256", "signet/sha.start384", "signet/sha.start512", "signet/sha.k256", "signet/sha.k512", "signet/signetref4.start384", "signet/signetref4.start512", "signet/signetref4.start256", "signet/signetref4.k256", "signet/signetref4.k512"], apart := false, laid := [("signet/sha.k256", laid_signet_sha_k256), ("signet/sha.k512", laid_signet_sha_k512), ("signet/sha.start256", laid_signet_sha_start256), ("signet/sha.start384", laid_signet_sha_start384), ("signet/sha.start512", laid_signet_sha_start512), ("signet/signetref4.k256", laid_signet_signetref4_k256), ("signet/signetref4.k512", laid_signet_signetref4_k512), ("signet/signetref4.start256", laid_signet_signetref4_start256), ("signet/signetref4.start384", laid_signet_signetref4_start384), ("signet/signetref4.start512", laid_signet_signetref4_start512)] }
def IdHalvesSaid : Prop := idHalvesRow.holds Tryd.pinned (OpenSpec.ofChange idHalvesSpec)

/-- ITS FALSE NEIGHBOUR: 'it returns false'. Refute it at one input. -/
def idHalvesWrong : ChangeSpec := { name := "idHalves", fn := fun _ => fun
  | [d1, d2] => { results := [.lit (.bool false)], args := [d1, d2] }
  | _ => none }
def IdHalvesWrongFalsely : Prop := idHalvesRow.holds Tryd.pinned (OpenSpec.ofChange idHalvesWrong)

/-- 'signetlaw3.JsonFinds': WHATEVER THE INPUT: true; the input reads as it did. -/
def jsonFindsSpec : ChangeSpec := { name := "jsonFinds", fn := fun _ => fun
  | [d1, d2, d3] => { results := [.lit (.bool true)], args := [d1, d2, d3] }
  | _ => none }
def jsonFindsRow : OpenClaim := { program := "ytdcoiccdbgcpaaadoor", sum := "19dbf938d79f1be6c526c6edb4a64339b87240efac1d37e306533540683952a8", func := "signet/signetlaw3.JsonFinds", spec := "jsonFinds", recurses := true, named := ["internal/strconv.uint64pow10", "math/bits.deBruijn32tab", "math/bits.deBruijn64tab"], apart := false, laid := [("math/bits.deBruijn32tab", laid_math_bits_deBruijn32tab), ("math/bits.deBruijn64tab", laid_math_bits_deBruijn64tab), ("internal/strconv.uint64pow10", laid_internal_strconv_uint64pow10)] }
def JsonFindsSaid : Prop := jsonFindsRow.holds Tryd.pinned (OpenSpec.ofChange jsonFindsSpec)

/-- ITS FALSE NEIGHBOUR: 'it returns false'. Refute it at one input. -/
def jsonFindsWrong : ChangeSpec := { name := "jsonFinds", fn := fun _ => fun
  | [d1, d2, d3] => { results := [.lit (.bool false)], args := [d1, d2, d3] }
  | _ => none }
def JsonFindsWrongFalsely : Prop := jsonFindsRow.holds Tryd.pinned (OpenSpec.ofChange jsonFindsWrong)

/-- 'signetlaw22.IdChecks': WHATEVER THE INPUT: true; the input reads as it did. -/
def idChecksSpec : ChangeSpec := { name := "idChecks", fn := fun _ => fun
  | [d1, d2, d3, d4] => { results := [.lit (.bool true)], args := [d1, d2, d3, d4] }
  | _ => none }
def idChecksRow : OpenClaim := { program := "ytdcoiccdbgcpaaadoor", sum := "19dbf938d79f1be6c526c6edb4a64339b87240efac1d37e306533540683952a8", func := "signet/signetlaw22.IdChecks", spec := "idChecks", unfollowed := true, recurses := true, named := ["signet/sha.start256", "signet/sha.start384", "signet/sha.start512", "signet/sha.k256", "signet/sha.k512", "signet/signetref4.start384", "signet/signetref4.start512", "signet/signetref4.start256", "signet/signetref4.k256", "signet/signetref4.k512"], apart := false, laid := [("signet/sha.k256", laid_signet_sha_k256), ("signet/sha.k512", laid_signet_sha_k512), ("signet/sha.start256", laid_signet_sha_start256), ("signet/sha.start384", laid_signet_sha_start384), ("signet/sha.start512", laid_signet_sha_start512), ("signet/signetref4.k256", laid_signet_signetref4_k256), ("signet/signetref4.k512", laid_signet_signetref4_k512), ("signet/signetref4.start256", laid_signet_signetref4_start256), ("signet/signetref4.start384", laid_signet_signetref4_start384), ("signet/signetref4.start512", laid_signet_signetref4_start512)] }
def IdChecksSaid : Prop := idChecksRow.holds Tryd.pinned (OpenSpec.ofChange idChecksSpec)

/-- ITS FALSE NEIGHBOUR: 'it returns false'. Refute it at one input. -/
def idChecksWrong : ChangeSpec := { name := "idChecks", fn := fun _ => fun
  | [d1, d2, d3, d4] => { results := [.lit (.bool false)], args := [d1, d2, d3, d4] }
  | _ => none }
def IdChecksWrongFalsely : Prop := idChecksRow.holds Tryd.pinned (OpenSpec.ofChange idChecksWrong)

/-- 'signetlaw3.JsonWrites': WHATEVER THE INPUT: true; the input reads as it did. -/
def jsonWritesSpec : ChangeSpec := { name := "jsonWrites", fn := fun _ => fun
  | [d] => { results := [.lit (.bool true)], args := [d] }
  | _ => none }
def jsonWritesRow : OpenClaim := { program := "ytdcoiccdbgcpaaadoor", sum := "19dbf938d79f1be6c526c6edb4a64339b87240efac1d37e306533540683952a8", func := "signet/signetlaw3.JsonWrites", spec := "jsonWrites", inPlace := ["internal/bytealg.IndexByteString", "internal/bytealg.IndexString", "internal/abi.NoEscape"], recurses := true, named := ["unicode/utf8.first", "unicode/utf8.acceptRanges", "internal/bytealg.MaxLen"], apart := false, laid := [("unicode/utf8.acceptRanges", laid_unicode_utf8_acceptRanges), ("unicode/utf8.first", laid_unicode_utf8_first)] }
def JsonWritesSaid : Prop := jsonWritesRow.holds Tryd.pinned (OpenSpec.ofChange jsonWritesSpec)

/-- ITS FALSE NEIGHBOUR: 'it returns false'. Refute it at one input. -/
def jsonWritesWrong : ChangeSpec := { name := "jsonWrites", fn := fun _ => fun
  | [d] => { results := [.lit (.bool false)], args := [d] }
  | _ => none }
def JsonWritesWrongFalsely : Prop := jsonWritesRow.holds Tryd.pinned (OpenSpec.ofChange jsonWritesWrong)

/-- 'signetlaw3.JsonReads': WHATEVER THE INPUT: true; the input reads as it did. -/
def jsonReadsSpec : ChangeSpec := { name := "jsonReads", fn := fun _ => fun
  | [d] => { results := [.lit (.bool true)], args := [d] }
  | _ => none }
def jsonReadsRow : OpenClaim := { program := "ytdcoiccdbgcpaaadoor", sum := "19dbf938d79f1be6c526c6edb4a64339b87240efac1d37e306533540683952a8", func := "signet/signetlaw3.JsonReads", spec := "jsonReads", inPlace := ["internal/bytealg.IndexByteString", "internal/bytealg.IndexString"], recurses := true, named := ["unicode/utf8.first", "unicode/utf8.acceptRanges", "internal/bytealg.MaxLen"], apart := false, laid := [("unicode/utf8.acceptRanges", laid_unicode_utf8_acceptRanges), ("unicode/utf8.first", laid_unicode_utf8_first)] }
def JsonReadsSaid : Prop := jsonReadsRow.holds Tryd.pinned (OpenSpec.ofChange jsonReadsSpec)

/-- ITS FALSE NEIGHBOUR: 'it returns false'. Refute it at one input. -/
def jsonReadsWrong : ChangeSpec := { name := "jsonReads", fn := fun _ => fun
  | [d] => { results := [.lit (.bool false)], args := [d] }
  | _ => none }
def JsonReadsWrongFalsely : Prop := jsonReadsRow.holds Tryd.pinned (OpenSpec.ofChange jsonReadsWrong)

/-- 'signetlaw3.JsonBack': WHATEVER THE INPUT: true; the input reads as it did. -/
def jsonBackSpec : ChangeSpec := { name := "jsonBack", fn := fun _ => fun
  | [d1, d2] => { results := [.lit (.bool true)], args := [d1, d2] }
  | _ => none }
def jsonBackRow : OpenClaim := { program := "ytdcoiccdbgcpaaadoor", sum := "19dbf938d79f1be6c526c6edb4a64339b87240efac1d37e306533540683952a8", func := "signet/signetlaw3.JsonBack", spec := "jsonBack", inPlace := ["internal/bytealg.IndexByteString", "internal/bytealg.IndexString", "internal/abi.NoEscape"], recurses := true, named := ["unicode/utf8.first", "unicode/utf8.acceptRanges", "internal/bytealg.MaxLen"], apart := false, laid := [("unicode/utf8.acceptRanges", laid_unicode_utf8_acceptRanges), ("unicode/utf8.first", laid_unicode_utf8_first)] }
def JsonBackSaid : Prop := jsonBackRow.holds Tryd.pinned (OpenSpec.ofChange jsonBackSpec)

/-- ITS FALSE NEIGHBOUR: 'it returns false'. Refute it at one input. -/
def jsonBackWrong : ChangeSpec := { name := "jsonBack", fn := fun _ => fun
  | [d1, d2] => { results := [.lit (.bool false)], args := [d1, d2] }
  | _ => none }
def JsonBackWrongFalsely : Prop := jsonBackRow.holds Tryd.pinned (OpenSpec.ofChange jsonBackWrong)

/-- 'signetlaw3.JsonLeast': WHATEVER THE INPUT: true; the input reads as it did. -/
def jsonLeastSpec : ChangeSpec := { name := "jsonLeast", fn := fun _ => fun
  | [d1, d2] => { results := [.lit (.bool true)], args := [d1, d2] }
  | _ => none }
def jsonLeastRow : OpenClaim := { program := "ytdcoiccdbgcpaaadoor", sum := "19dbf938d79f1be6c526c6edb4a64339b87240efac1d37e306533540683952a8", func := "signet/signetlaw3.JsonLeast", spec := "jsonLeast", inPlace := ["internal/bytealg.IndexByteString", "internal/bytealg.IndexString", "internal/abi.NoEscape"], recurses := true, named := ["unicode/utf8.first", "unicode/utf8.acceptRanges", "internal/bytealg.MaxLen"], apart := false, laid := [("unicode/utf8.acceptRanges", laid_unicode_utf8_acceptRanges), ("unicode/utf8.first", laid_unicode_utf8_first)] }
def JsonLeastSaid : Prop := jsonLeastRow.holds Tryd.pinned (OpenSpec.ofChange jsonLeastSpec)

/-- ITS FALSE NEIGHBOUR: 'it returns false'. Refute it at one input. -/
def jsonLeastWrong : ChangeSpec := { name := "jsonLeast", fn := fun _ => fun
  | [d1, d2] => { results := [.lit (.bool false)], args := [d1, d2] }
  | _ => none }
def JsonLeastWrongFalsely : Prop := jsonLeastRow.holds Tryd.pinned (OpenSpec.ofChange jsonLeastWrong)

/-- 'signetlaw3.JsonSpelled': WHATEVER THE INPUT: true; the input reads as it did. -/
def jsonSpelledSpec : ChangeSpec := { name := "jsonSpelled", fn := fun _ => fun
  | [d1, d2] => { results := [.lit (.bool true)], args := [d1, d2] }
  | _ => none }
def jsonSpelledRow : OpenClaim := { program := "ytdcoiccdbgcpaaadoor", sum := "19dbf938d79f1be6c526c6edb4a64339b87240efac1d37e306533540683952a8", func := "signet/signetlaw3.JsonSpelled", spec := "jsonSpelled", inPlace := ["internal/bytealg.IndexByteString", "internal/bytealg.IndexString", "internal/abi.NoEscape"], recurses := true, named := ["unicode/utf8.first", "unicode/utf8.acceptRanges", "internal/bytealg.MaxLen"], apart := false, laid := [("unicode/utf8.acceptRanges", laid_unicode_utf8_acceptRanges), ("unicode/utf8.first", laid_unicode_utf8_first)] }
def JsonSpelledSaid : Prop := jsonSpelledRow.holds Tryd.pinned (OpenSpec.ofChange jsonSpelledSpec)

/-- ITS FALSE NEIGHBOUR: 'it returns false'. Refute it at one input. -/
def jsonSpelledWrong : ChangeSpec := { name := "jsonSpelled", fn := fun _ => fun
  | [d1, d2] => { results := [.lit (.bool false)], args := [d1, d2] }
  | _ => none }
def JsonSpelledWrongFalsely : Prop := jsonSpelledRow.holds Tryd.pinned (OpenSpec.ofChange jsonSpelledWrong)

/-- 'signetlaw3.JsonParts': WHATEVER THE INPUT: true; the input reads as it did. -/
def jsonPartsSpec : ChangeSpec := { name := "jsonParts", fn := fun _ => fun
  | [d] => { results := [.lit (.bool true)], args := [d] }
  | _ => none }
def jsonPartsRow : OpenClaim := { program := "ytdcoiccdbgcpaaadoor", sum := "19dbf938d79f1be6c526c6edb4a64339b87240efac1d37e306533540683952a8", func := "signet/signetlaw3.JsonParts", spec := "jsonParts", inPlace := ["internal/bytealg.IndexByteString", "internal/bytealg.IndexString", "internal/abi.NoEscape"], recurses := true, named := ["unicode/utf8.first", "unicode/utf8.acceptRanges", "internal/bytealg.MaxLen"], apart := false, laid := [("unicode/utf8.acceptRanges", laid_unicode_utf8_acceptRanges), ("unicode/utf8.first", laid_unicode_utf8_first)] }
def JsonPartsSaid : Prop := jsonPartsRow.holds Tryd.pinned (OpenSpec.ofChange jsonPartsSpec)

/-- ITS FALSE NEIGHBOUR: 'it returns false'. Refute it at one input. -/
def jsonPartsWrong : ChangeSpec := { name := "jsonParts", fn := fun _ => fun
  | [d] => { results := [.lit (.bool false)], args := [d] }
  | _ => none }
def JsonPartsWrongFalsely : Prop := jsonPartsRow.holds Tryd.pinned (OpenSpec.ofChange jsonPartsWrong)

/-- 'signetlaw3.JsonFresh': WHATEVER THE INPUT: true; the input reads as it did. -/
def jsonFreshSpec : ChangeSpec := { name := "jsonFresh", fn := fun _ => fun
  | [d1, d2] => { results := [.lit (.bool true)], args := [d1, d2] }
  | _ => none }
def jsonFreshRow : OpenClaim := { program := "ytdcoiccdbgcpaaadoor", sum := "19dbf938d79f1be6c526c6edb4a64339b87240efac1d37e306533540683952a8", func := "signet/signetlaw3.JsonFresh", spec := "jsonFresh", inPlace := ["internal/bytealg.IndexByteString", "internal/bytealg.IndexString", "internal/abi.NoEscape"], recurses := true, named := ["unicode/utf8.first", "unicode/utf8.acceptRanges", "internal/bytealg.MaxLen"], apart := false, laid := [("unicode/utf8.acceptRanges", laid_unicode_utf8_acceptRanges), ("unicode/utf8.first", laid_unicode_utf8_first)] }
def JsonFreshSaid : Prop := jsonFreshRow.holds Tryd.pinned (OpenSpec.ofChange jsonFreshSpec)

/-- ITS FALSE NEIGHBOUR: 'it returns false'. Refute it at one input. -/
def jsonFreshWrong : ChangeSpec := { name := "jsonFresh", fn := fun _ => fun
  | [d1, d2] => { results := [.lit (.bool false)], args := [d1, d2] }
  | _ => none }
def JsonFreshWrongFalsely : Prop := jsonFreshRow.holds Tryd.pinned (OpenSpec.ofChange jsonFreshWrong)

/- THE SECOND FORM. 'bulk': how many values and letters a reading holds, each counted each time it is reached (what is shared counts as often as it is met; a slice's spare places count too). A statement '..UptoSaid' is the law's where the arguments, and the package variables that the reading takes, are together of bulk at most 1048576: NARROWER than '..Said'. Prove '..Said' where nothing that the law and all that it calls make is longer than what came in: it says more and counts as full. Else prove '..UptoSaid'. A law counts once. -/
mutual
def uptoBulk {H : Type} : DataW H → Nat
  | .lit (.string bytes) => bytes.length + 1
  | .lit _ => 1
  | .nil => 1
  | .ptr d => uptoBulk d + 1
  | .slice elems spare => uptoBulkAll elems + uptoBulkAll spare + 1
  | .agg parts => uptoBulkAll parts + 1
  | .iface _ d => uptoBulk d + 1
  | .map entries => uptoBulkEntries entries + 1
  | .held _ => 1
def uptoBulkAll {H : Type} : List (DataW H) → Nat
  | [] => 0
  | d :: r => uptoBulk d + uptoBulkAll r
def uptoBulkEntries {H : Type} : List (Lit × DataW H) → Nat
  | [] => 0
  | x :: r => uptoBulkEntry x + uptoBulkEntries r
def uptoBulkEntry {H : Type} : Lit × DataW H → Nat
  | (.string bytes, d) => bytes.length + uptoBulk d + 1
  | (_, d) => uptoBulk d + 1
 end
def uptoSmall : (H : Type) → List (DataW H) → Bool := fun _ ds => decide (uptoBulkAll ds ≤ 1048576)
def OpenSpec.upto (s : _root_.Go.ChangeSpec) : _root_.Go.OpenSpec := { _root_.Go.OpenSpec.ofChange s with cond := some uptoSmall }

/-- 'signetlaw16.KeysetBinds', WHERE WHAT IT READS IS OF BULK AT MOST 1048576: true; the input reads as it did. -/
def keysetBindsUptoRow : OpenClaim := { program := "ytdcoiccdbgcpaaadoor", sum := "19dbf938d79f1be6c526c6edb4a64339b87240efac1d37e306533540683952a8", func := "signet/signetlaw16.KeysetBinds", spec := "keysetBinds", recurses := true, named := ["signet/keyset.names"], apart := false, laid := [("signet/keyset.names", laid_signet_keyset_names)], narrowed := true }
def KeysetBindsUptoSaid : Prop := keysetBindsUptoRow.holds Tryd.pinned (OpenSpec.upto keysetBindsSpec)

/-- 'signetlaw22.IdHalves', WHERE WHAT IT READS IS OF BULK AT MOST 1048576: true; the input reads as it did. -/
def idHalvesUptoRow : OpenClaim := { program := "ytdcoiccdbgcpaaadoor", sum := "19dbf938d79f1be6c526c6edb4a64339b87240efac1d37e306533540683952a8", func := "signet/signetlaw22.IdHalves", spec := "idHalves", named := ["signet/sha.start256", "signet/sha.start384", "signet/sha.start512", "signet/sha.k256", "signet/sha.k512", "signet/signetref4.start384", "signet/signetref4.start512", "signet/signetref4.start256", "signet/signetref4.k256", "signet/signetref4.k512"], apart := false, laid := [("signet/sha.k256", laid_signet_sha_k256), ("signet/sha.k512", laid_signet_sha_k512), ("signet/sha.start256", laid_signet_sha_start256), ("signet/sha.start384", laid_signet_sha_start384), ("signet/sha.start512", laid_signet_sha_start512), ("signet/signetref4.k256", laid_signet_signetref4_k256), ("signet/signetref4.k512", laid_signet_signetref4_k512), ("signet/signetref4.start256", laid_signet_signetref4_start256), ("signet/signetref4.start384", laid_signet_signetref4_start384), ("signet/signetref4.start512", laid_signet_signetref4_start512)], narrowed := true }
def IdHalvesUptoSaid : Prop := idHalvesUptoRow.holds Tryd.pinned (OpenSpec.upto idHalvesSpec)

/-- 'signetlaw3.JsonFinds', WHERE WHAT IT READS IS OF BULK AT MOST 1048576: true; the input reads as it did. -/
def jsonFindsUptoRow : OpenClaim := { program := "ytdcoiccdbgcpaaadoor", sum := "19dbf938d79f1be6c526c6edb4a64339b87240efac1d37e306533540683952a8", func := "signet/signetlaw3.JsonFinds", spec := "jsonFinds", recurses := true, named := ["internal/strconv.uint64pow10", "math/bits.deBruijn32tab", "math/bits.deBruijn64tab"], apart := false, laid := [("math/bits.deBruijn32tab", laid_math_bits_deBruijn32tab), ("math/bits.deBruijn64tab", laid_math_bits_deBruijn64tab), ("internal/strconv.uint64pow10", laid_internal_strconv_uint64pow10)], narrowed := true }
def JsonFindsUptoSaid : Prop := jsonFindsUptoRow.holds Tryd.pinned (OpenSpec.upto jsonFindsSpec)

/-- 'signetlaw22.IdChecks', WHERE WHAT IT READS IS OF BULK AT MOST 1048576: true; the input reads as it did. -/
def idChecksUptoRow : OpenClaim := { program := "ytdcoiccdbgcpaaadoor", sum := "19dbf938d79f1be6c526c6edb4a64339b87240efac1d37e306533540683952a8", func := "signet/signetlaw22.IdChecks", spec := "idChecks", unfollowed := true, recurses := true, named := ["signet/sha.start256", "signet/sha.start384", "signet/sha.start512", "signet/sha.k256", "signet/sha.k512", "signet/signetref4.start384", "signet/signetref4.start512", "signet/signetref4.start256", "signet/signetref4.k256", "signet/signetref4.k512"], apart := false, laid := [("signet/sha.k256", laid_signet_sha_k256), ("signet/sha.k512", laid_signet_sha_k512), ("signet/sha.start256", laid_signet_sha_start256), ("signet/sha.start384", laid_signet_sha_start384), ("signet/sha.start512", laid_signet_sha_start512), ("signet/signetref4.k256", laid_signet_signetref4_k256), ("signet/signetref4.k512", laid_signet_signetref4_k512), ("signet/signetref4.start256", laid_signet_signetref4_start256), ("signet/signetref4.start384", laid_signet_signetref4_start384), ("signet/signetref4.start512", laid_signet_signetref4_start512)], narrowed := true }
def IdChecksUptoSaid : Prop := idChecksUptoRow.holds Tryd.pinned (OpenSpec.upto idChecksSpec)

/-- 'signetlaw3.JsonWrites', WHERE WHAT IT READS IS OF BULK AT MOST 1048576: true; the input reads as it did. -/
def jsonWritesUptoRow : OpenClaim := { program := "ytdcoiccdbgcpaaadoor", sum := "19dbf938d79f1be6c526c6edb4a64339b87240efac1d37e306533540683952a8", func := "signet/signetlaw3.JsonWrites", spec := "jsonWrites", inPlace := ["internal/bytealg.IndexByteString", "internal/bytealg.IndexString", "internal/abi.NoEscape"], recurses := true, named := ["unicode/utf8.first", "unicode/utf8.acceptRanges", "internal/bytealg.MaxLen"], apart := false, laid := [("unicode/utf8.acceptRanges", laid_unicode_utf8_acceptRanges), ("unicode/utf8.first", laid_unicode_utf8_first)], narrowed := true }
def JsonWritesUptoSaid : Prop := jsonWritesUptoRow.holds Tryd.pinned (OpenSpec.upto jsonWritesSpec)

/-- 'signetlaw3.JsonReads', WHERE WHAT IT READS IS OF BULK AT MOST 1048576: true; the input reads as it did. -/
def jsonReadsUptoRow : OpenClaim := { program := "ytdcoiccdbgcpaaadoor", sum := "19dbf938d79f1be6c526c6edb4a64339b87240efac1d37e306533540683952a8", func := "signet/signetlaw3.JsonReads", spec := "jsonReads", inPlace := ["internal/bytealg.IndexByteString", "internal/bytealg.IndexString"], recurses := true, named := ["unicode/utf8.first", "unicode/utf8.acceptRanges", "internal/bytealg.MaxLen"], apart := false, laid := [("unicode/utf8.acceptRanges", laid_unicode_utf8_acceptRanges), ("unicode/utf8.first", laid_unicode_utf8_first)], narrowed := true }
def JsonReadsUptoSaid : Prop := jsonReadsUptoRow.holds Tryd.pinned (OpenSpec.upto jsonReadsSpec)

/-- 'signetlaw3.JsonBack', WHERE WHAT IT READS IS OF BULK AT MOST 1048576: true; the input reads as it did. -/
def jsonBackUptoRow : OpenClaim := { program := "ytdcoiccdbgcpaaadoor", sum := "19dbf938d79f1be6c526c6edb4a64339b87240efac1d37e306533540683952a8", func := "signet/signetlaw3.JsonBack", spec := "jsonBack", inPlace := ["internal/bytealg.IndexByteString", "internal/bytealg.IndexString", "internal/abi.NoEscape"], recurses := true, named := ["unicode/utf8.first", "unicode/utf8.acceptRanges", "internal/bytealg.MaxLen"], apart := false, laid := [("unicode/utf8.acceptRanges", laid_unicode_utf8_acceptRanges), ("unicode/utf8.first", laid_unicode_utf8_first)], narrowed := true }
def JsonBackUptoSaid : Prop := jsonBackUptoRow.holds Tryd.pinned (OpenSpec.upto jsonBackSpec)

/-- 'signetlaw3.JsonLeast', WHERE WHAT IT READS IS OF BULK AT MOST 1048576: true; the input reads as it did. -/
def jsonLeastUptoRow : OpenClaim := { program := "ytdcoiccdbgcpaaadoor", sum := "19dbf938d79f1be6c526c6edb4a64339b87240efac1d37e306533540683952a8", func := "signet/signetlaw3.JsonLeast", spec := "jsonLeast", inPlace := ["internal/bytealg.IndexByteString", "internal/bytealg.IndexString", "internal/abi.NoEscape"], recurses := true, named := ["unicode/utf8.first", "unicode/utf8.acceptRanges", "internal/bytealg.MaxLen"], apart := false, laid := [("unicode/utf8.acceptRanges", laid_unicode_utf8_acceptRanges), ("unicode/utf8.first", laid_unicode_utf8_first)], narrowed := true }
def JsonLeastUptoSaid : Prop := jsonLeastUptoRow.holds Tryd.pinned (OpenSpec.upto jsonLeastSpec)

/-- 'signetlaw3.JsonSpelled', WHERE WHAT IT READS IS OF BULK AT MOST 1048576: true; the input reads as it did. -/
def jsonSpelledUptoRow : OpenClaim := { program := "ytdcoiccdbgcpaaadoor", sum := "19dbf938d79f1be6c526c6edb4a64339b87240efac1d37e306533540683952a8", func := "signet/signetlaw3.JsonSpelled", spec := "jsonSpelled", inPlace := ["internal/bytealg.IndexByteString", "internal/bytealg.IndexString", "internal/abi.NoEscape"], recurses := true, named := ["unicode/utf8.first", "unicode/utf8.acceptRanges", "internal/bytealg.MaxLen"], apart := false, laid := [("unicode/utf8.acceptRanges", laid_unicode_utf8_acceptRanges), ("unicode/utf8.first", laid_unicode_utf8_first)], narrowed := true }
def JsonSpelledUptoSaid : Prop := jsonSpelledUptoRow.holds Tryd.pinned (OpenSpec.upto jsonSpelledSpec)

/-- 'signetlaw3.JsonParts', WHERE WHAT IT READS IS OF BULK AT MOST 1048576: true; the input reads as it did. -/
def jsonPartsUptoRow : OpenClaim := { program := "ytdcoiccdbgcpaaadoor", sum := "19dbf938d79f1be6c526c6edb4a64339b87240efac1d37e306533540683952a8", func := "signet/signetlaw3.JsonParts", spec := "jsonParts", inPlace := ["internal/bytealg.IndexByteString", "internal/bytealg.IndexString", "internal/abi.NoEscape"], recurses := true, named := ["unicode/utf8.first", "unicode/utf8.acceptRanges", "internal/bytealg.MaxLen"], apart := false, laid := [("unicode/utf8.acceptRanges", laid_unicode_utf8_acceptRanges), ("unicode/utf8.first", laid_unicode_utf8_first)], narrowed := true }
def JsonPartsUptoSaid : Prop := jsonPartsUptoRow.holds Tryd.pinned (OpenSpec.upto jsonPartsSpec)

/-- 'signetlaw3.JsonFresh', WHERE WHAT IT READS IS OF BULK AT MOST 1048576: true; the input reads as it did. -/
def jsonFreshUptoRow : OpenClaim := { program := "ytdcoiccdbgcpaaadoor", sum := "19dbf938d79f1be6c526c6edb4a64339b87240efac1d37e306533540683952a8", func := "signet/signetlaw3.JsonFresh", spec := "jsonFresh", inPlace := ["internal/bytealg.IndexByteString", "internal/bytealg.IndexString", "internal/abi.NoEscape"], recurses := true, named := ["unicode/utf8.first", "unicode/utf8.acceptRanges", "internal/bytealg.MaxLen"], apart := false, laid := [("unicode/utf8.acceptRanges", laid_unicode_utf8_acceptRanges), ("unicode/utf8.first", laid_unicode_utf8_first)], narrowed := true }
def JsonFreshUptoSaid : Prop := jsonFreshUptoRow.holds Tryd.pinned (OpenSpec.upto jsonFreshSpec)

end Rows
end Go.Proofs.YtdcoiccdbgcpaaaDoor
